/- Stripes that are known: the document's list of them. -/
import Derived.Test.YtmdkkhnenciknaaSmI
import Derived.Test.YtmdkkhnenciknaaPartRef24
namespace Go.Proofs.YtmdkkhnenciknaaI
set_option linter.unusedSimpArgs false
set_option linter.unusedVariables false
open Go

/-- A list of stripes, as a value, by its rows. -/
structure RSr (H : IHeap) (S : List Nat) (u : Value) (rows : List (List Value)) (L : List St) : Prop where
  sl : SlW H 6 u rows
  far : Far H u S
  len : rows.length = L.length
  row : ∀ i x, L[i]? = some x → ∃ v, rows[i]? = some (rowSt i x v) ∧ SlW H 1 v (x.sv.map rowI) ∧ Far H v S
def RS (H : IHeap) (S : List Nat) (u : Value) (L : List St) : Prop := ∃ rows, RSr H S u rows L
theorem RS.le {H H' : IHeap} {S : List Nat} {u : Value} {L : List St} (h : RS H S u L) (hl : H.le H') : RS H' S u L := by
  obtain ⟨rows, a, b, c, d⟩ := h
  exact ⟨rows, a.le hl, b.le hl.next, c, fun i x hx => by obtain ⟨v, h1, h2, h3⟩ := d i x hx; exact ⟨v, h1, h2.le hl, h3.le hl.next⟩⟩
theorem RS.upd {H H' : IHeap} {S : List Nat} {u : Value} {L : List St} (h : RS H S u L) (hu : IHeap.upd S H H') : RS H' S u L := by
  obtain ⟨rows, a, b, c, d⟩ := h
  exact ⟨rows, a.upd b.off hu, b.le hu.next, c, fun i x hx => by obtain ⟨v, h1, h2, h3⟩ := d i x hx; exact ⟨v, h1, h2.upd h3.off hu, h3.le hu.next⟩⟩
theorem RS.more {H : IHeap} {S S' : List Nat} {u : Value} {L : List St} (h : RS H S u L) (hs : ∀ b ∈ S', b ∈ S ∨ H.next ≤ b) : RS H S' u L := by
  obtain ⟨rows, a, b, c, d⟩ := h
  exact ⟨rows, a, b.more hs, c, fun i x hx => by obtain ⟨v, h1, h2, h3⟩ := d i x hx; exact ⟨v, h1, h2, h3.more hs⟩⟩
/-- After a change of some objects, and with more that were not there. -/
theorem RS.step {H H' : IHeap} {S S' : List Nat} {u : Value} {L : List St} (h : RS H S u L) (hu : IHeap.upd S H H') (hs : ∀ b ∈ S', b ∈ S ∨ H.next ≤ b) : RS H' S' u L := by
  obtain ⟨rows, a, b, c, d⟩ := h
  exact ⟨rows, a.upd b.off hu, (b.more hs).le hu.next, c, fun i x hx => by obtain ⟨v, h1, h2, h3⟩ := d i x hx; exact ⟨v, h1, h2.upd h3.off hu, (h3.more hs).le hu.next⟩⟩
theorem RS.nil (H : IHeap) (S : List Nat) : RS H S (.slice none 0 0) [] := ⟨[], SlW.nil H 6, fun b o n c e => by simp at e, rfl, fun i x hx => by simp at hx⟩
theorem RS.lenv {H : IHeap} {S : List Nat} {u : Value} {L : List St} (h : RS H S u L) : ∃ a cap, u = .slice a L.length cap := by
  obtain ⟨rows, a, b, c, d⟩ := h
  obtain ⟨x, y, e⟩ := a.len
  exact ⟨x, y, by rw [← c]; exact e⟩
theorem RSr.all {H : IHeap} {S : List Nat} {u : Value} {rows : List (List Value)} {L : List St} (h : RSr H S u rows L) : rows.flatten.all one1 = true ∧ ∀ r ∈ rows, r.length = 6 := by
  have key : ∀ r ∈ rows, r.length = 6 ∧ ∀ y ∈ r, one1 y = true := by
    intro r hr
    obtain ⟨i, hi, e⟩ := List.getElem_of_mem hr
    have hx : L[i]? = some (L[i]'(by rw [← h.len]; exact hi)) := List.getElem?_eq_getElem _
    obtain ⟨v, h1, h2, _⟩ := h.row i _ hx
    rw [List.getElem?_eq_getElem hi, e] at h1
    injection h1 with h1
    obtain ⟨a, c, rfl⟩ := h2.len
    subst h1
    refine ⟨rfl, fun y hy => ?_⟩
    simp only [rowSt, List.mem_cons, List.not_mem_nil, or_false] at hy
    rcases hy with rfl | rfl | rfl | rfl | rfl | rfl <;> rfl
  refine ⟨?_, fun r hr => (key r hr).1⟩
  rw [List.all_eq_true]
  intro y hy
  obtain ⟨r, hr, hy⟩ := List.mem_flatten.1 hy
  exact (key r hr).2 y hy
theorem RS.at {H : IHeap} {S : List Nat} {u : Value} {L : List St} (h : RS H S u L) {i : Nat} {x : St} (hx : L[i]? = some x) :
    ∃ b o cap cs ro v, u = .slice (some ⟨b, o, none⟩) L.length cap ∧ b < H.next ∧ H.get b = some (.cells cs ro) ∧ (cs.drop (o + i * 6)).take 6 = rowSt i x v ∧ o + i * 6 + 6 ≤ cs.length ∧ SlW H 1 v (x.sv.map rowI) ∧ Far H v S ∧ ∃ a c, v = .slice a x.sv.length c := by
  obtain ⟨rows, a, b, c, d⟩ := h
  obtain ⟨v, h1, h2, h3⟩ := d i x hx
  obtain ⟨b, o, cp, cs, ro, e, q1, q2, _, q4, q5⟩ := a.1.at h1
  obtain ⟨a', c', e'⟩ := h2.len
  exact ⟨b, o, cp, cs, ro, v, by rw [← c]; exact e, q1, q2, q4, q5, h2, h3, a', c', by rw [List.length_map] at e'; exact e'⟩
/-- A copy of all. -/
theorem RSr.copy {H : IHeap} {S : List Nat} {u : Value} {rows : List (List Value)} {L : List St} (h : RSr H S u rows L) (hl : L.length ≤ 4096) {B : Nat} (hB : B ≤ H.next) :
    firstI H 6 L.length u = some rows.flatten ∧ ∃ v' H', appendI H 6 64 (.slice none 0 0) L.length rows.flatten = some (v', H') ∧ Grow H' B 6 v' rows ∧ IHeap.keep B H H' := by
  have hf := h.sl.first (by omega)
  rw [h.len] at hf
  refine ⟨hf, ?_⟩
  have hn := h.len
  obtain ⟨v', H', e1, e2, e3⟩ := copied (bytes := 64) h.sl (by omega) (by omega) h.all.1 (by omega) (by omega) (Grow.nil H B 6) hB (by simp; omega) (by simp; omega)
  rw [h.len] at e1
  exact ⟨v', H', e1, by simpa using e2, e3⟩

section
variable (c : Ctx) (hR : HasRef24 c) (h23 : HasRef23 c) {H : IHeap} {K : Value → IHeap → Prop}

include hR in
theorem Rknown_ok {S : List Nat} {u : Value} {L : List St} {id : Int} (h : RS H S u L) (hl : L.length ≤ 4096) (hK : K (.bool (getS L id).isSome) H) : c.C (c.F n_hurdleref24_known) [u, .int .i64 id] H K := by
  refine c.enter hR.hurdleref24_known rfl ?_
  obtain ⟨a, cap, rfl⟩ := h.lenv
  cases hg : getS L id with
  | none =>
    rw [hg] at hK
    rcases getS_none hg with hn | hn
    · have : ¬ 0 ≤ id := by omega
      simp -implicitDefEqProofs [J0,J1,J2,J3,J4,J5,J6,J7,J8,J9,Ja,Jb,Jc,Jd,Je,Jf,Jg,Jh,Ji,Jj,Jk,Jl,Jm,Jn,Jo,Jp,Jq,Jr,Js,Jt,Ju,Jv,Jw,Jx,Jy,Jz,JA,JB,JC,JD,JE,JF,JG,JH,JI,JJ,JK,JL,JM,JN,JO,JP,stillI,IOp.kind,JQ,JR,JS,JT,JU,JV,JW,JX,JY,JZ,Y0,Y1,Y2,Y3,Y4,Y5,Y6,Y7,Y8,Y9,Ya,Yb,Yc,Yd,Ye,Yf,Yg,Yh,Yi,Yj,Yk,Yl,Ym,Yn,ial,Yo,Yp,Yq,Yr,Ys,Yt,Yu,Yv,ires,iresL,ires1,Yw,Yx,Yy,Yz,YA,YB,bin2,YC,YD,YE,YF,YG,YH,YI,YJ,YK,YL,YM,YN,YO,YP,YQ,YR,un1,shOk,eqL,eq1,fillL,putAt,IHeap.load1,IHeap.loadL,IHeap.storeL,YS,YT,YU,YV,YW,YX,YY,YZ,B0,B1,B2,B3,B4,B5,B6,B7,B8,B9,Ba,Bb,Bc,Bd,Be,Bf,Bg,Bh,Bi,Bj,Bk,Bl,Bm, c_hurdleref24_known, this]
      exact hK
    · have h2 : ¬ id < (L.length : Int) := by omega
      by_cases h0 : 0 ≤ id
      · simp -implicitDefEqProofs [J0,J1,J2,J3,J4,J5,J6,J7,J8,J9,Ja,Jb,Jc,Jd,Je,Jf,Jg,Jh,Ji,Jj,Jk,Jl,Jm,Jn,Jo,Jp,Jq,Jr,Js,Jt,Ju,Jv,Jw,Jx,Jy,Jz,JA,JB,JC,JD,JE,JF,JG,JH,JI,JJ,JK,JL,JM,JN,JO,JP,stillI,IOp.kind,JQ,JR,JS,JT,JU,JV,JW,JX,JY,JZ,Y0,Y1,Y2,Y3,Y4,Y5,Y6,Y7,Y8,Y9,Ya,Yb,Yc,Yd,Ye,Yf,Yg,Yh,Yi,Yj,Yk,Yl,Ym,Yn,ial,Yo,Yp,Yq,Yr,Ys,Yt,Yu,Yv,ires,iresL,ires1,Yw,Yx,Yy,Yz,YA,YB,bin2,YC,YD,YE,YF,YG,YH,YI,YJ,YK,YL,YM,YN,YO,YP,YQ,YR,un1,shOk,eqL,eq1,fillL,putAt,IHeap.load1,IHeap.loadL,IHeap.storeL,YS,YT,YU,YV,YW,YX,YY,YZ,B0,B1,B2,B3,B4,B5,B6,B7,B8,B9,Ba,Bb,Bc,Bd,Be,Bf,Bg,Bh,Bi,Bj,Bk,Bl,Bm, c_hurdleref24_known, h0, h2]
        exact hK
      · simp -implicitDefEqProofs [J0,J1,J2,J3,J4,J5,J6,J7,J8,J9,Ja,Jb,Jc,Jd,Je,Jf,Jg,Jh,Ji,Jj,Jk,Jl,Jm,Jn,Jo,Jp,Jq,Jr,Js,Jt,Ju,Jv,Jw,Jx,Jy,Jz,JA,JB,JC,JD,JE,JF,JG,JH,JI,JJ,JK,JL,JM,JN,JO,JP,stillI,IOp.kind,JQ,JR,JS,JT,JU,JV,JW,JX,JY,JZ,Y0,Y1,Y2,Y3,Y4,Y5,Y6,Y7,Y8,Y9,Ya,Yb,Yc,Yd,Ye,Yf,Yg,Yh,Yi,Yj,Yk,Yl,Ym,Yn,ial,Yo,Yp,Yq,Yr,Ys,Yt,Yu,Yv,ires,iresL,ires1,Yw,Yx,Yy,Yz,YA,YB,bin2,YC,YD,YE,YF,YG,YH,YI,YJ,YK,YL,YM,YN,YO,YP,YQ,YR,un1,shOk,eqL,eq1,fillL,putAt,IHeap.load1,IHeap.loadL,IHeap.storeL,YS,YT,YU,YV,YW,YX,YY,YZ,B0,B1,B2,B3,B4,B5,B6,B7,B8,B9,Ba,Bb,Bc,Bd,Be,Bf,Bg,Bh,Bi,Bj,Bk,Bl,Bm, c_hurdleref24_known, h0]
        exact hK
  | some x =>
    rw [hg] at hK
    obtain ⟨i0, i1, hx⟩ := getS_some hg
    have h2 : id < (L.length : Int) := by omega
    simp -implicitDefEqProofs [J0,J1,J2,J3,J4,J5,J6,J7,J8,J9,Ja,Jb,Jc,Jd,Je,Jf,Jg,Jh,Ji,Jj,Jk,Jl,Jm,Jn,Jo,Jp,Jq,Jr,Js,Jt,Ju,Jv,Jw,Jx,Jy,Jz,JA,JB,JC,JD,JE,JF,JG,JH,JI,JJ,JK,JL,JM,JN,JO,JP,stillI,IOp.kind,JQ,JR,JS,JT,JU,JV,JW,JX,JY,JZ,Y0,Y1,Y2,Y3,Y4,Y5,Y6,Y7,Y8,Y9,Ya,Yb,Yc,Yd,Ye,Yf,Yg,Yh,Yi,Yj,Yk,Yl,Ym,Yn,ial,Yo,Yp,Yq,Yr,Ys,Yt,Yu,Yv,ires,iresL,ires1,Yw,Yx,Yy,Yz,YA,YB,bin2,YC,YD,YE,YF,YG,YH,YI,YJ,YK,YL,YM,YN,YO,YP,YQ,YR,un1,shOk,eqL,eq1,fillL,putAt,IHeap.load1,IHeap.loadL,IHeap.storeL,YS,YT,YU,YV,YW,YX,YY,YZ,B0,B1,B2,B3,B4,B5,B6,B7,B8,B9,Ba,Bb,Bc,Bd,Be,Bf,Bg,Bh,Bi,Bj,Bk,Bl,Bm, c_hurdleref24_known, i0, h2]
    exact hK

include hR h23 in
theorem Rmay_ok {i : Int} {x : St} {v : Value} (hs : SlW H 1 v (x.sv.map rowI)) (hl : x.sv.length ≤ 1000000000) (hK : ∀ H', H.le H' → K (.bool x.may) H') : c.C (c.F n_hurdleref24_may) [.agg #[.int .i64 i, .int .i64 x.st, .int .i64 x.ow, .int .i64 x.ep, .int .i64 x.le, v]] H K := by
  refine c.enter hR.hurdleref24_may rfl ?_
  have hs2 := hs
  obtain ⟨a, cap, rfl⟩ := hs.len
  simp only [List.length_map] at hs2 ⊢
  unfold St.may grpS at hK
  have kA : ∀ y, H.le (H.alloc y) := fun y => H.le_alloc y
  by_cases h1 : 0 ≤ x.ow
  · by_cases h2 : x.ow < 16
    · by_cases h3 : 1 ≤ x.ep
      · by_cases h4 : 0 ≤ x.le
        · by_cases h5 : x.le ≤ 65536
          · simp -implicitDefEqProofs [J0,J1,J2,J3,J4,J5,J6,J7,J8,J9,Ja,Jb,Jc,Jd,Je,Jf,Jg,Jh,Ji,Jj,Jk,Jl,Jm,Jn,Jo,Jp,Jq,Jr,Js,Jt,Ju,Jv,Jw,Jx,Jy,Jz,JA,JB,JC,JD,JE,JF,JG,JH,JI,JJ,JK,JL,JM,JN,JO,JP,stillI,IOp.kind,JQ,JR,JS,JT,JU,JV,JW,JX,JY,JZ,Y0,Y1,Y2,Y3,Y4,Y5,Y6,Y7,Y8,Y9,Ya,Yb,Yc,Yd,Ye,Yf,Yg,Yh,Yi,Yj,Yk,Yl,Ym,Yn,ial,Yo,Yp,Yq,Yr,Ys,Yt,Yu,Yv,ires,iresL,ires1,Yw,Yx,Yy,Yz,YA,YB,bin2,YC,YD,YE,YF,YG,YH,YI,YJ,YK,YL,YM,YN,YO,YP,YQ,YR,un1,shOk,eqL,eq1,fillL,putAt,IHeap.load1,IHeap.loadL,IHeap.storeL,YS,YT,YU,YV,YW,YX,YY,YZ,B0,B1,B2,B3,B4,B5,B6,B7,B8,B9,Ba,Bb,Bc,Bd,Be,Bf,Bg,Bh,Bi,Bj,Bk,Bl,Bm, c_hurdleref24_may, h1, h2, h3, h4, h5]
            refine call_of (Group_ok c h23 (hs2.le (kA _)) hl ?_)
            simp -implicitDefEqProofs [J0,J1,J2,J3,J4,J5,J6,J7,J8,J9,Ja,Jb,Jc,Jd,Je,Jf,Jg,Jh,Ji,Jj,Jk,Jl,Jm,Jn,Jo,Jp,Jq,Jr,Js,Jt,Ju,Jv,Jw,Jx,Jy,Jz,JA,JB,JC,JD,JE,JF,JG,JH,JI,JJ,JK,JL,JM,JN,JO,JP,stillI,IOp.kind,JQ,JR,JS,JT,JU,JV,JW,JX,JY,JZ,Y0,Y1,Y2,Y3,Y4,Y5,Y6,Y7,Y8,Y9,Ya,Yb,Yc,Yd,Ye,Yf,Yg,Yh,Yi,Yj,Yk,Yl,Ym,Yn,ial,Yo,Yp,Yq,Yr,Ys,Yt,Yu,Yv,ires,iresL,ires1,Yw,Yx,Yy,Yz,YA,YB,bin2,YC,YD,YE,YF,YG,YH,YI,YJ,YK,YL,YM,YN,YO,YP,YQ,YR,un1,shOk,eqL,eq1,fillL,putAt,IHeap.load1,IHeap.loadL,IHeap.storeL,YS,YT,YU,YV,YW,YX,YY,YZ,B0,B1,B2,B3,B4,B5,B6,B7,B8,B9,Ba,Bb,Bc,Bd,Be,Bf,Bg,Bh,Bi,Bj,Bk,Bl,Bm]
            simpa [h1, h2, h3, h4, h5] using hK _ (kA _)
          · simp -implicitDefEqProofs [J0,J1,J2,J3,J4,J5,J6,J7,J8,J9,Ja,Jb,Jc,Jd,Je,Jf,Jg,Jh,Ji,Jj,Jk,Jl,Jm,Jn,Jo,Jp,Jq,Jr,Js,Jt,Ju,Jv,Jw,Jx,Jy,Jz,JA,JB,JC,JD,JE,JF,JG,JH,JI,JJ,JK,JL,JM,JN,JO,JP,stillI,IOp.kind,JQ,JR,JS,JT,JU,JV,JW,JX,JY,JZ,Y0,Y1,Y2,Y3,Y4,Y5,Y6,Y7,Y8,Y9,Ya,Yb,Yc,Yd,Ye,Yf,Yg,Yh,Yi,Yj,Yk,Yl,Ym,Yn,ial,Yo,Yp,Yq,Yr,Ys,Yt,Yu,Yv,ires,iresL,ires1,Yw,Yx,Yy,Yz,YA,YB,bin2,YC,YD,YE,YF,YG,YH,YI,YJ,YK,YL,YM,YN,YO,YP,YQ,YR,un1,shOk,eqL,eq1,fillL,putAt,IHeap.load1,IHeap.loadL,IHeap.storeL,YS,YT,YU,YV,YW,YX,YY,YZ,B0,B1,B2,B3,B4,B5,B6,B7,B8,B9,Ba,Bb,Bc,Bd,Be,Bf,Bg,Bh,Bi,Bj,Bk,Bl,Bm, c_hurdleref24_may, h1, h2, h3, h4, h5]
            simpa [h1, h2, h3, h4, h5] using hK _ (kA _)
        · simp -implicitDefEqProofs [J0,J1,J2,J3,J4,J5,J6,J7,J8,J9,Ja,Jb,Jc,Jd,Je,Jf,Jg,Jh,Ji,Jj,Jk,Jl,Jm,Jn,Jo,Jp,Jq,Jr,Js,Jt,Ju,Jv,Jw,Jx,Jy,Jz,JA,JB,JC,JD,JE,JF,JG,JH,JI,JJ,JK,JL,JM,JN,JO,JP,stillI,IOp.kind,JQ,JR,JS,JT,JU,JV,JW,JX,JY,JZ,Y0,Y1,Y2,Y3,Y4,Y5,Y6,Y7,Y8,Y9,Ya,Yb,Yc,Yd,Ye,Yf,Yg,Yh,Yi,Yj,Yk,Yl,Ym,Yn,ial,Yo,Yp,Yq,Yr,Ys,Yt,Yu,Yv,ires,iresL,ires1,Yw,Yx,Yy,Yz,YA,YB,bin2,YC,YD,YE,YF,YG,YH,YI,YJ,YK,YL,YM,YN,YO,YP,YQ,YR,un1,shOk,eqL,eq1,fillL,putAt,IHeap.load1,IHeap.loadL,IHeap.storeL,YS,YT,YU,YV,YW,YX,YY,YZ,B0,B1,B2,B3,B4,B5,B6,B7,B8,B9,Ba,Bb,Bc,Bd,Be,Bf,Bg,Bh,Bi,Bj,Bk,Bl,Bm, c_hurdleref24_may, h1, h2, h3, h4]
          simpa [h1, h2, h3, h4] using hK _ (kA _)
      · simp -implicitDefEqProofs [J0,J1,J2,J3,J4,J5,J6,J7,J8,J9,Ja,Jb,Jc,Jd,Je,Jf,Jg,Jh,Ji,Jj,Jk,Jl,Jm,Jn,Jo,Jp,Jq,Jr,Js,Jt,Ju,Jv,Jw,Jx,Jy,Jz,JA,JB,JC,JD,JE,JF,JG,JH,JI,JJ,JK,JL,JM,JN,JO,JP,stillI,IOp.kind,JQ,JR,JS,JT,JU,JV,JW,JX,JY,JZ,Y0,Y1,Y2,Y3,Y4,Y5,Y6,Y7,Y8,Y9,Ya,Yb,Yc,Yd,Ye,Yf,Yg,Yh,Yi,Yj,Yk,Yl,Ym,Yn,ial,Yo,Yp,Yq,Yr,Ys,Yt,Yu,Yv,ires,iresL,ires1,Yw,Yx,Yy,Yz,YA,YB,bin2,YC,YD,YE,YF,YG,YH,YI,YJ,YK,YL,YM,YN,YO,YP,YQ,YR,un1,shOk,eqL,eq1,fillL,putAt,IHeap.load1,IHeap.loadL,IHeap.storeL,YS,YT,YU,YV,YW,YX,YY,YZ,B0,B1,B2,B3,B4,B5,B6,B7,B8,B9,Ba,Bb,Bc,Bd,Be,Bf,Bg,Bh,Bi,Bj,Bk,Bl,Bm, c_hurdleref24_may, h1, h2, h3]
        simpa [h1, h2, h3] using hK _ (kA _)
    · simp -implicitDefEqProofs [J0,J1,J2,J3,J4,J5,J6,J7,J8,J9,Ja,Jb,Jc,Jd,Je,Jf,Jg,Jh,Ji,Jj,Jk,Jl,Jm,Jn,Jo,Jp,Jq,Jr,Js,Jt,Ju,Jv,Jw,Jx,Jy,Jz,JA,JB,JC,JD,JE,JF,JG,JH,JI,JJ,JK,JL,JM,JN,JO,JP,stillI,IOp.kind,JQ,JR,JS,JT,JU,JV,JW,JX,JY,JZ,Y0,Y1,Y2,Y3,Y4,Y5,Y6,Y7,Y8,Y9,Ya,Yb,Yc,Yd,Ye,Yf,Yg,Yh,Yi,Yj,Yk,Yl,Ym,Yn,ial,Yo,Yp,Yq,Yr,Ys,Yt,Yu,Yv,ires,iresL,ires1,Yw,Yx,Yy,Yz,YA,YB,bin2,YC,YD,YE,YF,YG,YH,YI,YJ,YK,YL,YM,YN,YO,YP,YQ,YR,un1,shOk,eqL,eq1,fillL,putAt,IHeap.load1,IHeap.loadL,IHeap.storeL,YS,YT,YU,YV,YW,YX,YY,YZ,B0,B1,B2,B3,B4,B5,B6,B7,B8,B9,Ba,Bb,Bc,Bd,Be,Bf,Bg,Bh,Bi,Bj,Bk,Bl,Bm, c_hurdleref24_may, h1, h2]
      simpa [h1, h2] using hK _ (kA _)
  · simp -implicitDefEqProofs [J0,J1,J2,J3,J4,J5,J6,J7,J8,J9,Ja,Jb,Jc,Jd,Je,Jf,Jg,Jh,Ji,Jj,Jk,Jl,Jm,Jn,Jo,Jp,Jq,Jr,Js,Jt,Ju,Jv,Jw,Jx,Jy,Jz,JA,JB,JC,JD,JE,JF,JG,JH,JI,JJ,JK,JL,JM,JN,JO,JP,stillI,IOp.kind,JQ,JR,JS,JT,JU,JV,JW,JX,JY,JZ,Y0,Y1,Y2,Y3,Y4,Y5,Y6,Y7,Y8,Y9,Ya,Yb,Yc,Yd,Ye,Yf,Yg,Yh,Yi,Yj,Yk,Yl,Ym,Yn,ial,Yo,Yp,Yq,Yr,Ys,Yt,Yu,Yv,ires,iresL,ires1,Yw,Yx,Yy,Yz,YA,YB,bin2,YC,YD,YE,YF,YG,YH,YI,YJ,YK,YL,YM,YN,YO,YP,YQ,YR,un1,shOk,eqL,eq1,fillL,putAt,IHeap.load1,IHeap.loadL,IHeap.storeL,YS,YT,YU,YV,YW,YX,YY,YZ,B0,B1,B2,B3,B4,B5,B6,B7,B8,B9,Ba,Bb,Bc,Bd,Be,Bf,Bg,Bh,Bi,Bj,Bk,Bl,Bm, c_hurdleref24_may, h1]
    simpa [h1] using hK _ (kA _)

include hR in
theorem RList_ok {S : List Nat} {u : Value} {L : List St} {st : Int} (h : RS H S u L) (hl : L.length ≤ 4096)
    (hK : ∀ v H', H.le H' → SlW H' 1 v ((wh (fun x => decide (x.st = st)) 0 L).map rowI) → (∀ S : List Nat, (∀ b ∈ S, b < H.next) → Far H' v S) → K v H') : c.C (c.F n_hurdleref24_List) [u, .int .i64 st] H K := by
  refine c.enter hR.hurdleref24_List rfl ?_
  obtain ⟨a, cap, hu⟩ := h.lenv
  simp -implicitDefEqProofs [J0,J1,J2,J3,J4,J5,J6,J7,J8,J9,Ja,Jb,Jc,Jd,Je,Jf,Jg,Jh,Ji,Jj,Jk,Jl,Jm,Jn,Jo,Jp,Jq,Jr,Js,Jt,Ju,Jv,Jw,Jx,Jy,Jz,JA,JB,JC,JD,JE,JF,JG,JH,JI,JJ,JK,JL,JM,JN,JO,JP,stillI,IOp.kind,JQ,JR,JS,JT,JU,JV,JW,JX,JY,JZ,Y0,Y1,Y2,Y3,Y4,Y5,Y6,Y7,Y8,Y9,Ya,Yb,Yc,Yd,Ye,Yf,Yg,Yh,Yi,Yj,Yk,Yl,Ym,Yn,ial,Yo,Yp,Yq,Yr,Ys,Yt,Yu,Yv,ires,iresL,ires1,Yw,Yx,Yy,Yz,YA,YB,bin2,YC,YD,YE,YF,YG,YH,YI,YJ,YK,YL,YM,YN,YO,YP,YQ,YR,un1,shOk,eqL,eq1,fillL,putAt,IHeap.load1,IHeap.loadL,IHeap.storeL,YS,YT,YU,YV,YW,YX,YY,YZ,B0,B1,B2,B3,B4,B5,B6,B7,B8,B9,Ba,Bb,Bc,Bd,Be,Bf,Bg,Bh,Bi,Bj,Bk,Bl,Bm, c_hurdleref24_List]
  refine loop_nat c.mono (fun k T H' => ∃ i : Nat, i ≤ L.length ∧ k = L.length - i ∧ T 0 = u ∧ T 1 = .int .i64 st ∧ T 6 = .int .i64 i ∧ H.le H' ∧ Grow H' H.next 1 (T 5) ((wh (fun x => decide (x.st = st)) 0 (L.take i)).map rowI)) L.length ?_ ?_
  · refine ⟨0, by omega, rfl, ?_⟩
    simp -implicitDefEqProofs [J0,J1,J2,J3,J4,J5,J6,J7,J8,J9,Ja,Jb,Jc,Jd,Je,Jf,Jg,Jh,Ji,Jj,Jk,Jl,Jm,Jn,Jo,Jp,Jq,Jr,Js,Jt,Ju,Jv,Jw,Jx,Jy,Jz,JA,JB,JC,JD,JE,JF,JG,JH,JI,JJ,JK,JL,JM,JN,JO,JP,stillI,IOp.kind,JQ,JR,JS,JT,JU,JV,JW,JX,JY,JZ,Y0,Y1,Y2,Y3,Y4,Y5,Y6,Y7,Y8,Y9,Ya,Yb,Yc,Yd,Ye,Yf,Yg,Yh,Yi,Yj,Yk,Yl,Ym,Yn,ial,Yo,Yp,Yq,Yr,Ys,Yt,Yu,Yv,ires,iresL,ires1,Yw,Yx,Yy,Yz,YA,YB,bin2,YC,YD,YE,YF,YG,YH,YI,YJ,YK,YL,YM,YN,YO,YP,YQ,YR,un1,shOk,eqL,eq1,fillL,putAt,IHeap.load1,IHeap.loadL,IHeap.storeL,YS,YT,YU,YV,YW,YX,YY,YZ,B0,B1,B2,B3,B4,B5,B6,B7,B8,B9,Ba,Bb,Bc,Bd,Be,Bf,Bg,Bh,Bi,Bj,Bk,Bl,Bm]
    exact ⟨IHeap.le_refl _, by simp [wh, Grow]⟩
  · rintro k T H' ⟨i, hi, rfl, t0, t1, t6, hle, hgr⟩
    rw [hu] at t0
    by_cases hil : i < L.length
    · have hil' : (i : Int) < (L.length : Int) := by omega
      have hx : L[i]? = some L[i] := List.getElem?_eq_getElem hil
      obtain ⟨x, hxe⟩ : ∃ x, x = L[i] := ⟨_, rfl⟩
      rw [← hxe] at hx
      obtain ⟨b, o, cp, cs, ro, v, e, hb, hget, hrow, hbd, _, _, _⟩ := h.at hx
      rw [hu] at e
      simp only [Value.slice.injEq] at e
      obtain ⟨rfl, -, rfl⟩ := e
      have r1 := row_get hrow 1 (by omega)
      simp only [rowSt, List.getElem?_cons_succ, List.getElem?_cons_zero] at r1
      have hget' := (hle.get b hb).trans hget
      have hw : IntKind.i64.wrap ((i : Int) + 1) = (i : Int) + 1 := wrap64 (by omega) (by omega)
      have nn := hle.next
      have htk : L.take (i + 1) = L.take i ++ [x] := by rw [List.take_add_one, hx]; rfl
      have hwl := wh_le (fun x => decide (x.st = st)) (L.take i) 0
      have hsn := wh_snoc (fun x => decide (x.st = st)) (L.take i) 0 x
      rw [← htk, Nat.zero_add, List.length_take, Nat.min_eq_left hi] at hsn
      rw [List.length_take] at hwl
      by_cases hs : x.st = st
      · rw [if_pos (by simpa using hs)] at hsn
        have kC := H'.le_alloc (.cells [.int .i64 i] false)
        obtain ⟨f4, v4, H4, e4, gr4, k4⟩ := app_ok (H := H'.alloc (.cells [.int .i64 i] false)) (l := [(i : Int)]) (old := wh (fun x => decide (x.st = st)) 0 (L.take i)) (B := H.next) (one_of (b := H'.next) (Nat.lt_succ_self _) (by rw [YS, if_pos rfl])) (hgr.le kC) (by simp only [YU]; omega) (by simp) (by omega)
        rw [← hsn] at gr4
        simp only [List.length_singleton, List.map_singleton, iV] at f4 e4
        simp -implicitDefEqProofs [J0,J1,J2,J3,J4,J5,J6,J7,J8,J9,Ja,Jb,Jc,Jd,Je,Jf,Jg,Jh,Ji,Jj,Jk,Jl,Jm,Jn,Jo,Jp,Jq,Jr,Js,Jt,Ju,Jv,Jw,Jx,Jy,Jz,JA,JB,JC,JD,JE,JF,JG,JH,JI,JJ,JK,JL,JM,JN,JO,JP,stillI,IOp.kind,JQ,JR,JS,JT,JU,JV,JW,JX,JY,JZ,Y0,Y1,Y2,Y3,Y4,Y5,Y6,Y7,Y8,Y9,Ya,Yb,Yc,Yd,Ye,Yf,Yg,Yh,Yi,Yj,Yk,Yl,Ym,Yn,ial,Yo,Yp,Yq,Yr,Ys,Yt,Yu,Yv,ires,iresL,ires1,Yw,Yx,Yy,Yz,YA,YB,bin2,YC,YD,YE,YF,YG,YH,YI,YJ,YK,YL,YM,YN,YO,YP,YQ,YR,un1,shOk,eqL,eq1,fillL,putAt,IHeap.load1,IHeap.loadL,IHeap.storeL,YS,YT,YU,YV,YW,YX,YY,YZ,B0,B1,B2,B3,B4,B5,B6,B7,B8,B9,Ba,Bb,Bc,Bd,Be,Bf,Bg,Bh,Bi,Bj,Bk,Bl,Bm, t0, t1, t6, hil, hil', hget', r1, hs, lenOfI, f4, e4, hw]
        have k5 : H.le H4 := ((hle.trans kC).keep (Nat.le_refl _) |>.trans k4).le (Nat.le_refl _)
        exact ⟨L.length - (i + 1), by omega, i + 1, by omega, rfl, hu.symm, by simp, k5, gr4⟩
      · rw [if_neg (by simpa using hs), List.append_nil] at hsn
        simp -implicitDefEqProofs [J0,J1,J2,J3,J4,J5,J6,J7,J8,J9,Ja,Jb,Jc,Jd,Je,Jf,Jg,Jh,Ji,Jj,Jk,Jl,Jm,Jn,Jo,Jp,Jq,Jr,Js,Jt,Ju,Jv,Jw,Jx,Jy,Jz,JA,JB,JC,JD,JE,JF,JG,JH,JI,JJ,JK,JL,JM,JN,JO,JP,stillI,IOp.kind,JQ,JR,JS,JT,JU,JV,JW,JX,JY,JZ,Y0,Y1,Y2,Y3,Y4,Y5,Y6,Y7,Y8,Y9,Ya,Yb,Yc,Yd,Ye,Yf,Yg,Yh,Yi,Yj,Yk,Yl,Ym,Yn,ial,Yo,Yp,Yq,Yr,Ys,Yt,Yu,Yv,ires,iresL,ires1,Yw,Yx,Yy,Yz,YA,YB,bin2,YC,YD,YE,YF,YG,YH,YI,YJ,YK,YL,YM,YN,YO,YP,YQ,YR,un1,shOk,eqL,eq1,fillL,putAt,IHeap.load1,IHeap.loadL,IHeap.storeL,YS,YT,YU,YV,YW,YX,YY,YZ,B0,B1,B2,B3,B4,B5,B6,B7,B8,B9,Ba,Bb,Bc,Bd,Be,Bf,Bg,Bh,Bi,Bj,Bk,Bl,Bm, t0, t1, t6, hil, hil', hget', r1, hs, hw]
        refine ⟨L.length - (i + 1), by omega, i + 1, by omega, rfl, hu.symm, by simp, hle, ?_⟩
        rw [hsn]; exact hgr
    · have hil' : ¬ (i : Int) < (L.length : Int) := by omega
      rw [List.take_of_length_le (by omega)] at hgr
      simp -implicitDefEqProofs [J0,J1,J2,J3,J4,J5,J6,J7,J8,J9,Ja,Jb,Jc,Jd,Je,Jf,Jg,Jh,Ji,Jj,Jk,Jl,Jm,Jn,Jo,Jp,Jq,Jr,Js,Jt,Ju,Jv,Jw,Jx,Jy,Jz,JA,JB,JC,JD,JE,JF,JG,JH,JI,JJ,JK,JL,JM,JN,JO,JP,stillI,IOp.kind,JQ,JR,JS,JT,JU,JV,JW,JX,JY,JZ,Y0,Y1,Y2,Y3,Y4,Y5,Y6,Y7,Y8,Y9,Ya,Yb,Yc,Yd,Ye,Yf,Yg,Yh,Yi,Yj,Yk,Yl,Ym,Yn,ial,Yo,Yp,Yq,Yr,Ys,Yt,Yu,Yv,ires,iresL,ires1,Yw,Yx,Yy,Yz,YA,YB,bin2,YC,YD,YE,YF,YG,YH,YI,YJ,YK,YL,YM,YN,YO,YP,YQ,YR,un1,shOk,eqL,eq1,fillL,putAt,IHeap.load1,IHeap.loadL,IHeap.storeL,YS,YT,YU,YV,YW,YX,YY,YZ,B0,B1,B2,B3,B4,B5,B6,B7,B8,B9,Ba,Bb,Bc,Bd,Be,Bf,Bg,Bh,Bi,Bj,Bk,Bl,Bm, t0, t1, t6, hil, hil']
      exact hK _ _ hle hgr.slw fun S hS => Grow.far hgr (Nat.le_refl _) hS

end
end Go.Proofs.YtmdkkhnenciknaaI
