/- Stripes that are known: deeds. -/
import Derived.Test.YtmdkkhnenciknaaSmC
namespace Go.Proofs.YtmdkkhnenciknaaI
set_option linter.unusedSimpArgs false
set_option linter.unusedVariables false
open Go

theorem row_get {cs r : List Value} {p n : Nat} (h : (cs.drop p).take n = r) (j : Nat) (hj : j < n) : cs[p + j]? = r[j]? := by
  rw [← h, List.getElem?_take, if_pos hj, List.getElem?_drop]
theorem opn_set {L : List St} {i : Nat} {x y : St} (hx : L[i]? = some x) : opn (L.set i y) + (if isOpen x then 1 else 0) = opn L + (if isOpen y then 1 else 0) := by
  obtain ⟨hi, e⟩ := List.getElem?_eq_some_iff.1 hx
  have hL : L = L.take i ++ x :: L.drop (i + 1) := by rw [← e, ← List.drop_eq_getElem_cons hi, List.take_append_drop]
  rw [List.set_eq_take_append_cons_drop, if_pos hi]
  unfold opn
  conv => rhs; rw [hL]
  simp only [List.countP_append, List.countP_cons]
  omega
/-- The blocks of stripes. -/
def foot (p q : Nat) (bs : Nat → Nat) (L : List St) : List Nat := p :: q :: (List.range L.length).map bs
theorem mem_foot {p q b : Nat} {bs : Nat → Nat} {L : List St} : b ∈ foot p q bs L ↔ b = p ∨ b = q ∨ ∃ i, i < L.length ∧ bs i = b := by
  simp only [foot, List.mem_cons, List.mem_map, List.mem_range]
theorem p_foot (p q : Nat) (bs : Nat → Nat) (L : List St) : p ∈ foot p q bs L := by simp [foot]
theorem q_foot (p q : Nat) (bs : Nat → Nat) (L : List St) : q ∈ foot p q bs L := by simp [foot]
theorem b_foot {p q : Nat} {bs : Nat → Nat} {L : List St} {i : Nat} (h : i < L.length) : bs i ∈ foot p q bs L := by rw [mem_foot]; exact .inr (.inr ⟨i, h, rfl⟩)
theorem foot_lt {H : IHeap} {p q : Nat} {bs : Nat → Nat} {L : List St} (h : IsS H p q bs L) : ∀ b ∈ foot p q bs L, b < H.next := fun b hb => by
  rw [mem_foot] at hb
  rcases hb with rfl | rfl | ⟨i, hi, rfl⟩
  · exact h.lt
  · exact h.ltq
  · exact (h.bl i L[i] (List.getElem?_eq_getElem hi)).1
theorem foot_set (p q : Nat) (bs : Nat → Nat) (L : List St) (i : Nat) (y : St) : foot p q bs (L.set i y) = foot p q bs L := by simp [foot]

theorem put_row {bs : Nat → Nat} {L : List St} {i j : Nat} {x y : St} {v : Value} (hx : L[i]? = some x) (hy : y.sv.length = x.sv.length) (hj : j < 6) (hr : (rowSt i x (slS (bs i) x.sv.length)).set j v = rowSt i y (slS (bs i) y.sv.length)) :
    List.take (i * 6 + j) (rowsB bs L).flatten ++ v :: List.drop (i * 6 + j + 1) (rowsB bs L).flatten = (rowsB bs (L.set i y)).flatten := by
  have hl := (flat_row _ 6 i _ (rowsB_six bs L) (rowsB_get hx)).2
  rw [← rowsB_set hx hy j v hr, ← flat_set _ i j v (rowsB_six bs L) hj, List.set_eq_take_append_cons_drop, if_pos (by omega)]

theorem IsS.mod {H H' : IHeap} {p q : Nat} {bs : Nat → Nat} {L : List St} {i : Nat} {x y : St} (h : IsS H p q bs L) (hx : L[i]? = some x) (hsv : y.sv = x.sv) (hy : y.ok) (hn : H'.next = H.next)
    (hp : H'.get p = some (.cells [.slice (some ⟨q, 0, none⟩) L.length (UNK + 6), .int .i64 (opn (L.set i y))] false)) (hq : H'.get q = some (.cells (rowsB bs (L.set i y)).flatten false)) (hb : ∀ b, b ≠ p → b ≠ q → H'.get b = H.get b) : IsS H' p q bs (L.set i y) := by
  obtain ⟨_, _, _, _, q1, q2⟩ := h.at hx
  refine ⟨by rw [hn]; exact h.lt, by rw [hn]; exact h.ltq, ⟨_, hp, .inr ⟨fun e => by have := congrArg List.length e; rw [List.length_set] at this; have h1 := (List.getElem?_eq_some_iff.1 hx).1; simp only [List.length_nil] at this; omega, q2, by rw [List.length_set], hq⟩⟩, fun z hz => ?_, by rw [List.length_set]; exact h.len, fun k z hz => ?_, fun a b ha hb => h.inj a b (by simpa using ha) (by simpa using hb)⟩
  · rcases List.mem_or_eq_of_mem_set hz with h1 | rfl
    · exact h.ok z h1
    · exact hy
  · by_cases hk : k = i
    · subst hk
      have : z = y := by
        rw [List.getElem?_set, if_pos rfl, if_pos (List.getElem?_eq_some_iff.1 hx).1] at hz
        injection hz with hz; exact hz.symm
      subst this
      obtain ⟨b1, b2, b3, b4⟩ := h.bl k x hx
      rw [hsv, hn, hb _ b3 b4]
      exact ⟨b1, b2, b3, b4⟩
    · rw [List.getElem?_set, if_neg (Ne.symm hk)] at hz
      obtain ⟨b1, b2, b3, b4⟩ := h.bl k z hz
      rw [hn, hb _ b3 b4]
      exact ⟨b1, b2, b3, b4⟩

section
variable (c : Ctx) (hc : HasSmap c) {H : IHeap} {K : Value → IHeap → Prop}
include hc

theorem SNew_ok (hK : ∀ H', H.le H' → IsS H' H.next H.next (fun _ => 0) [] → K (.pointer (some ⟨H.next, 0, none⟩)) H') : c.C (c.F n_smap_New) [] H K := by
  refine c.enter hc.smap_New rfl ?_
  simp -implicitDefEqProofs [J0,J1,J2,J3,J4,J5,J6,J7,J8,J9,Ja,Jb,Jc,Jd,Je,Jf,Jg,Jh,Ji,Jj,Jk,Jl,Jm,Jn,Jo,Jp,Jq,Jr,Js,Jt,Ju,Jv,Jw,Jx,Jy,Jz,JA,JB,JC,JD,JE,JF,JG,JH,JI,JJ,JK,JL,JM,JN,JO,JP,stillI,IOp.kind,JQ,JR,JS,JT,JU,JV,JW,JX,JY,JZ,Y0,Y1,Y2,Y3,Y4,Y5,Y6,Y7,Y8,Y9,Ya,Yb,Yc,Yd,Ye,Yf,Yg,Yh,Yi,Yj,Yk,Yl,Ym,Yn,ial,Yo,Yp,Yq,Yr,Ys,Yt,Yu,Yv,ires,iresL,ires1,Yw,Yx,Yy,Yz,YA,YB,bin2,YC,YD,YE,YF,YG,YH,YI,YJ,YK,YL,YM,YN,YO,YP,YQ,YR,un1,shOk,eqL,eq1,fillL,putAt,IHeap.load1,IHeap.loadL,IHeap.storeL,YS,YT,YU,YV,YW,YX,YY,YZ,B0,B1,B2,B3,B4,B5,B6,B7,B8,B9,Ba,Bb,Bc,Bd,Be,Bf,Bg,Bh,Bi,Bj,Bk,Bl,Bm, c_smap_New]
  exact hK _ (H.le_alloc _) ⟨by simp [YU], by simp [YU], ⟨_, by rw [YS, if_pos rfl]; rfl, .inl ⟨rfl, rfl⟩⟩, by simp, by simp, by simp, by simp⟩

theorem SCommit_ok {p q : Nat} {bs : Nat → Nat} {L : List St} {id ow : Int} (h : IsS H p q bs L) (hK : ∀ H', IHeap.upd (foot p q bs L) H H' → H'.next = H.next → IsS H' p q bs (SCommit L id ow).1 → foot p q bs (SCommit L id ow).1 = foot p q bs L → K (.int .i64 (SCommit L id ow).2) H') :
    c.C (c.F n_smap_Map_Commit) [.pointer (some ⟨p, 0, none⟩), .int .i64 id, .int .i64 ow] H K := by
  refine c.enter hc.smap_Map_Commit rfl ?_
  simp -implicitDefEqProofs [J0,J1,J2,J3,J4,J5,J6,J7,J8,J9,Ja,Jb,Jc,Jd,Je,Jf,Jg,Jh,Ji,Jj,Jk,Jl,Jm,Jn,Jo,Jp,Jq,Jr,Js,Jt,Ju,Jv,Jw,Jx,Jy,Jz,JA,JB,JC,JD,JE,JF,JG,JH,JI,JJ,JK,JL,JM,JN,JO,JP,stillI,IOp.kind,JQ,JR,JS,JT,JU,JV,JW,JX,JY,JZ,Y0,Y1,Y2,Y3,Y4,Y5,Y6,Y7,Y8,Y9,Ya,Yb,Yc,Yd,Ye,Yf,Yg,Yh,Yi,Yj,Yk,Yl,Ym,Yn,ial,Yo,Yp,Yq,Yr,Ys,Yt,Yu,Yv,ires,iresL,ires1,Yw,Yx,Yy,Yz,YA,YB,bin2,YC,YD,YE,YF,YG,YH,YI,YJ,YK,YL,YM,YN,YO,YP,YQ,YR,un1,shOk,eqL,eq1,fillL,putAt,IHeap.load1,IHeap.loadL,IHeap.storeL,YS,YT,YU,YV,YW,YX,YY,YZ,B0,B1,B2,B3,B4,B5,B6,B7,B8,B9,Ba,Bb,Bc,Bd,Be,Bf,Bg,Bh,Bi,Bj,Bk,Bl,Bm, c_smap_Map_Commit, nilOf]
  unfold SCommit at hK
  refine call_of (at_okS c hc h (fun hg => ?_) fun x hg => ?_)
  · rw [hg] at hK
    simp -implicitDefEqProofs [J0,J1,J2,J3,J4,J5,J6,J7,J8,J9,Ja,Jb,Jc,Jd,Je,Jf,Jg,Jh,Ji,Jj,Jk,Jl,Jm,Jn,Jo,Jp,Jq,Jr,Js,Jt,Ju,Jv,Jw,Jx,Jy,Jz,JA,JB,JC,JD,JE,JF,JG,JH,JI,JJ,JK,JL,JM,JN,JO,JP,stillI,IOp.kind,JQ,JR,JS,JT,JU,JV,JW,JX,JY,JZ,Y0,Y1,Y2,Y3,Y4,Y5,Y6,Y7,Y8,Y9,Ya,Yb,Yc,Yd,Ye,Yf,Yg,Yh,Yi,Yj,Yk,Yl,Ym,Yn,ial,Yo,Yp,Yq,Yr,Ys,Yt,Yu,Yv,ires,iresL,ires1,Yw,Yx,Yy,Yz,YA,YB,bin2,YC,YD,YE,YF,YG,YH,YI,YJ,YK,YL,YM,YN,YO,YP,YQ,YR,un1,shOk,eqL,eq1,fillL,putAt,IHeap.load1,IHeap.loadL,IHeap.storeL,YS,YT,YU,YV,YW,YX,YY,YZ,B0,B1,B2,B3,B4,B5,B6,B7,B8,B9,Ba,Bb,Bc,Bd,Be,Bf,Bg,Bh,Bi,Bj,Bk,Bl,Bm, nilOf]
    exact hK _ (IHeap.upd_refl _ _) rfl h rfl
  · rw [hg] at hK
    simp only at hK
    obtain ⟨i0, i1, hx⟩ := getS_some hg
    obtain ⟨g1, g2, hrow, hbd, hq, hpq⟩ := h.at hx
    have r1 := row_get hrow 1 (by omega)
    have r2 := row_get hrow 2 (by omega)
    simp only [rowSt, List.getElem?_cons_succ, List.getElem?_cons_zero] at r1 r2
    by_cases hs : x.st = 1
    · by_cases hw : x.ow = ow
      · subst hw
        rw [if_neg (by simp [hs])] at hK
        have ho := opn_set (y := { x with st := 2 }) hx
        have hbd1 : id.toNat * 6 + 1 + 1 ≤ (rowsB bs L).flatten.length := by omega
        rw [List.length_flatten] at hbd1
        have hput := put_row (bs := bs) (j := 1) (v := .int .i64 2) (y := { x with st := 2 }) hx rfl (by omega) rfl
        simp -implicitDefEqProofs [J0,J1,J2,J3,J4,J5,J6,J7,J8,J9,Ja,Jb,Jc,Jd,Je,Jf,Jg,Jh,Ji,Jj,Jk,Jl,Jm,Jn,Jo,Jp,Jq,Jr,Js,Jt,Ju,Jv,Jw,Jx,Jy,Jz,JA,JB,JC,JD,JE,JF,JG,JH,JI,JJ,JK,JL,JM,JN,JO,JP,stillI,IOp.kind,JQ,JR,JS,JT,JU,JV,JW,JX,JY,JZ,Y0,Y1,Y2,Y3,Y4,Y5,Y6,Y7,Y8,Y9,Ya,Yb,Yc,Yd,Ye,Yf,Yg,Yh,Yi,Yj,Yk,Yl,Ym,Yn,ial,Yo,Yp,Yq,Yr,Ys,Yt,Yu,Yv,ires,iresL,ires1,Yw,Yx,Yy,Yz,YA,YB,bin2,YC,YD,YE,YF,YG,YH,YI,YJ,YK,YL,YM,YN,YO,YP,YQ,YR,un1,shOk,eqL,eq1,fillL,putAt,IHeap.load1,IHeap.loadL,IHeap.storeL,YS,YT,YU,YV,YW,YX,YY,YZ,B0,B1,B2,B3,B4,B5,B6,B7,B8,B9,Ba,Bb,Bc,Bd,Be,Bf,Bg,Bh,Bi,Bj,Bk,Bl,Bm, nilOf, g2, r1, r2, hs, hbd1, hput]
        have hxo := h.ok x (List.mem_of_getElem? hx)
        have hio : isOpen x = isOpen { x with st := 2 } := by simp [isOpen, hs]
        rw [hio] at ho
        have ho2 : opn (L.set id.toNat { x with st := 2 }) = opn L := by omega
        refine hK _ ((IHeap.upd_refl _ _).set (.inr (q_foot _ _ _ _)) _) rfl ?_ (foot_set ..)
        exact h.mod hx rfl ⟨hxo.may, by simp, by simp, hxo.ep⟩ rfl (by rw [YT, if_neg hpq, ho2]; exact g1) (by rw [YT, if_pos rfl]) (fun b h1 h2 => by rw [YT, if_neg h2])
      · rw [if_pos (by simp [hw])] at hK
        simp -implicitDefEqProofs [J0,J1,J2,J3,J4,J5,J6,J7,J8,J9,Ja,Jb,Jc,Jd,Je,Jf,Jg,Jh,Ji,Jj,Jk,Jl,Jm,Jn,Jo,Jp,Jq,Jr,Js,Jt,Ju,Jv,Jw,Jx,Jy,Jz,JA,JB,JC,JD,JE,JF,JG,JH,JI,JJ,JK,JL,JM,JN,JO,JP,stillI,IOp.kind,JQ,JR,JS,JT,JU,JV,JW,JX,JY,JZ,Y0,Y1,Y2,Y3,Y4,Y5,Y6,Y7,Y8,Y9,Ya,Yb,Yc,Yd,Ye,Yf,Yg,Yh,Yi,Yj,Yk,Yl,Ym,Yn,ial,Yo,Yp,Yq,Yr,Ys,Yt,Yu,Yv,ires,iresL,ires1,Yw,Yx,Yy,Yz,YA,YB,bin2,YC,YD,YE,YF,YG,YH,YI,YJ,YK,YL,YM,YN,YO,YP,YQ,YR,un1,shOk,eqL,eq1,fillL,putAt,IHeap.load1,IHeap.loadL,IHeap.storeL,YS,YT,YU,YV,YW,YX,YY,YZ,B0,B1,B2,B3,B4,B5,B6,B7,B8,B9,Ba,Bb,Bc,Bd,Be,Bf,Bg,Bh,Bi,Bj,Bk,Bl,Bm, nilOf, g2, r1, r2, hs, hw]
        exact hK _ (IHeap.upd_refl _ _) rfl h rfl
    · rw [if_pos (by simp [hs])] at hK
      simp -implicitDefEqProofs [J0,J1,J2,J3,J4,J5,J6,J7,J8,J9,Ja,Jb,Jc,Jd,Je,Jf,Jg,Jh,Ji,Jj,Jk,Jl,Jm,Jn,Jo,Jp,Jq,Jr,Js,Jt,Ju,Jv,Jw,Jx,Jy,Jz,JA,JB,JC,JD,JE,JF,JG,JH,JI,JJ,JK,JL,JM,JN,JO,JP,stillI,IOp.kind,JQ,JR,JS,JT,JU,JV,JW,JX,JY,JZ,Y0,Y1,Y2,Y3,Y4,Y5,Y6,Y7,Y8,Y9,Ya,Yb,Yc,Yd,Ye,Yf,Yg,Yh,Yi,Yj,Yk,Yl,Ym,Yn,ial,Yo,Yp,Yq,Yr,Ys,Yt,Yu,Yv,ires,iresL,ires1,Yw,Yx,Yy,Yz,YA,YB,bin2,YC,YD,YE,YF,YG,YH,YI,YJ,YK,YL,YM,YN,YO,YP,YQ,YR,un1,shOk,eqL,eq1,fillL,putAt,IHeap.load1,IHeap.loadL,IHeap.storeL,YS,YT,YU,YV,YW,YX,YY,YZ,B0,B1,B2,B3,B4,B5,B6,B7,B8,B9,Ba,Bb,Bc,Bd,Be,Bf,Bg,Bh,Bi,Bj,Bk,Bl,Bm, nilOf, g2, r1, r2, hs]
      exact hK _ (IHeap.upd_refl _ _) rfl h rfl

theorem SFree_ok {p q : Nat} {bs : Nat → Nat} {L : List St} {id : Int} (h : IsS H p q bs L) (hK : ∀ H', IHeap.upd (foot p q bs L) H H' → H'.next = H.next → IsS H' p q bs (SFree L id).1 → foot p q bs (SFree L id).1 = foot p q bs L → K (.int .i64 (SFree L id).2) H') :
    c.C (c.F n_smap_Map_Free) [.pointer (some ⟨p, 0, none⟩), .int .i64 id] H K := by
  refine c.enter hc.smap_Map_Free rfl ?_
  simp -implicitDefEqProofs [J0,J1,J2,J3,J4,J5,J6,J7,J8,J9,Ja,Jb,Jc,Jd,Je,Jf,Jg,Jh,Ji,Jj,Jk,Jl,Jm,Jn,Jo,Jp,Jq,Jr,Js,Jt,Ju,Jv,Jw,Jx,Jy,Jz,JA,JB,JC,JD,JE,JF,JG,JH,JI,JJ,JK,JL,JM,JN,JO,JP,stillI,IOp.kind,JQ,JR,JS,JT,JU,JV,JW,JX,JY,JZ,Y0,Y1,Y2,Y3,Y4,Y5,Y6,Y7,Y8,Y9,Ya,Yb,Yc,Yd,Ye,Yf,Yg,Yh,Yi,Yj,Yk,Yl,Ym,Yn,ial,Yo,Yp,Yq,Yr,Ys,Yt,Yu,Yv,ires,iresL,ires1,Yw,Yx,Yy,Yz,YA,YB,bin2,YC,YD,YE,YF,YG,YH,YI,YJ,YK,YL,YM,YN,YO,YP,YQ,YR,un1,shOk,eqL,eq1,fillL,putAt,IHeap.load1,IHeap.loadL,IHeap.storeL,YS,YT,YU,YV,YW,YX,YY,YZ,B0,B1,B2,B3,B4,B5,B6,B7,B8,B9,Ba,Bb,Bc,Bd,Be,Bf,Bg,Bh,Bi,Bj,Bk,Bl,Bm, c_smap_Map_Free, nilOf]
  unfold SFree at hK
  refine call_of (at_okS c hc h (fun hg => ?_) fun x hg => ?_)
  · rw [hg] at hK
    simp -implicitDefEqProofs [J0,J1,J2,J3,J4,J5,J6,J7,J8,J9,Ja,Jb,Jc,Jd,Je,Jf,Jg,Jh,Ji,Jj,Jk,Jl,Jm,Jn,Jo,Jp,Jq,Jr,Js,Jt,Ju,Jv,Jw,Jx,Jy,Jz,JA,JB,JC,JD,JE,JF,JG,JH,JI,JJ,JK,JL,JM,JN,JO,JP,stillI,IOp.kind,JQ,JR,JS,JT,JU,JV,JW,JX,JY,JZ,Y0,Y1,Y2,Y3,Y4,Y5,Y6,Y7,Y8,Y9,Ya,Yb,Yc,Yd,Ye,Yf,Yg,Yh,Yi,Yj,Yk,Yl,Ym,Yn,ial,Yo,Yp,Yq,Yr,Ys,Yt,Yu,Yv,ires,iresL,ires1,Yw,Yx,Yy,Yz,YA,YB,bin2,YC,YD,YE,YF,YG,YH,YI,YJ,YK,YL,YM,YN,YO,YP,YQ,YR,un1,shOk,eqL,eq1,fillL,putAt,IHeap.load1,IHeap.loadL,IHeap.storeL,YS,YT,YU,YV,YW,YX,YY,YZ,B0,B1,B2,B3,B4,B5,B6,B7,B8,B9,Ba,Bb,Bc,Bd,Be,Bf,Bg,Bh,Bi,Bj,Bk,Bl,Bm, nilOf]
    exact hK _ (IHeap.upd_refl _ _) rfl h rfl
  · rw [hg] at hK
    simp only at hK
    obtain ⟨i0, i1, hx⟩ := getS_some hg
    obtain ⟨g1, g2, hrow, hbd, hq, hpq⟩ := h.at hx
    have r1 := row_get hrow 1 (by omega)
    simp only [rowSt, List.getElem?_cons_succ, List.getElem?_cons_zero] at r1
    have hxo := h.ok x (List.mem_of_getElem? hx)
    have hop : opn L ≤ 4096 := Nat.le_trans (opn_le L) h.len
    by_cases hs : x.st = 3
    · rw [if_pos hs] at hK
      simp -implicitDefEqProofs [J0,J1,J2,J3,J4,J5,J6,J7,J8,J9,Ja,Jb,Jc,Jd,Je,Jf,Jg,Jh,Ji,Jj,Jk,Jl,Jm,Jn,Jo,Jp,Jq,Jr,Js,Jt,Ju,Jv,Jw,Jx,Jy,Jz,JA,JB,JC,JD,JE,JF,JG,JH,JI,JJ,JK,JL,JM,JN,JO,JP,stillI,IOp.kind,JQ,JR,JS,JT,JU,JV,JW,JX,JY,JZ,Y0,Y1,Y2,Y3,Y4,Y5,Y6,Y7,Y8,Y9,Ya,Yb,Yc,Yd,Ye,Yf,Yg,Yh,Yi,Yj,Yk,Yl,Ym,Yn,ial,Yo,Yp,Yq,Yr,Ys,Yt,Yu,Yv,ires,iresL,ires1,Yw,Yx,Yy,Yz,YA,YB,bin2,YC,YD,YE,YF,YG,YH,YI,YJ,YK,YL,YM,YN,YO,YP,YQ,YR,un1,shOk,eqL,eq1,fillL,putAt,IHeap.load1,IHeap.loadL,IHeap.storeL,YS,YT,YU,YV,YW,YX,YY,YZ,B0,B1,B2,B3,B4,B5,B6,B7,B8,B9,Ba,Bb,Bc,Bd,Be,Bf,Bg,Bh,Bi,Bj,Bk,Bl,Bm, nilOf, g2, r1, hs]
      exact hK _ (IHeap.upd_refl _ _) rfl h rfl
    · rw [if_neg hs] at hK
      have ho := opn_set (y := { x with st := 3 }) hx
      have hio : isOpen x = true := by simp [isOpen, hs]
      have hio2 : isOpen { x with st := 3 } = false := by simp [isOpen]
      rw [hio, hio2] at ho
      simp only [if_true, Bool.false_eq_true, if_false] at ho
      have ho2 : opn L = opn (L.set id.toNat { x with st := 3 }) + 1 := by omega
      have hw : IntKind.i64.wrap ((opn L : Int) - 1) = (opn (L.set id.toNat { x with st := 3 }) : Int) := by rw [wrap64 (by omega) (by omega)]; omega
      have hbd1 : id.toNat * 6 + 1 + 1 ≤ (rowsB bs L).flatten.length := by omega
      rw [List.length_flatten] at hbd1
      have hput := put_row (bs := bs) (j := 1) (v := .int .i64 3) (y := { x with st := 3 }) hx rfl (by omega) rfl
      have h12 : x.st = 1 ∨ x.st = 2 := by have := hxo.s1; have := hxo.s3; omega
      have fin : ∀ H', H' = (H.set q (.cells (rowsB bs (L.set id.toNat { x with st := 3 })).flatten false)).set p (.cells [.slice (some ⟨q, 0, none⟩) L.length (UNK + 6), .int .i64 (opn (L.set id.toNat { x with st := 3 }))] false) → K (.int .i64 0) H' := by
        rintro H' rfl
        refine hK _ (((IHeap.upd_refl _ _).set (i := q) (.inr (q_foot _ _ _ _)) _).set (i := p) (.inr (p_foot _ _ _ _)) _) rfl ?_ (foot_set ..)
        exact h.mod hx rfl ⟨hxo.may, by simp, by simp, hxo.ep⟩ rfl (by rw [YT, if_pos rfl]) (by rw [YT, if_neg (Ne.symm hpq), YT, if_pos rfl]) (fun b h1 h2 => by rw [YT, if_neg h1, YT, if_neg h2])
      rcases h12 with h12 | h12
      all_goals
        simp -implicitDefEqProofs [J0,J1,J2,J3,J4,J5,J6,J7,J8,J9,Ja,Jb,Jc,Jd,Je,Jf,Jg,Jh,Ji,Jj,Jk,Jl,Jm,Jn,Jo,Jp,Jq,Jr,Js,Jt,Ju,Jv,Jw,Jx,Jy,Jz,JA,JB,JC,JD,JE,JF,JG,JH,JI,JJ,JK,JL,JM,JN,JO,JP,stillI,IOp.kind,JQ,JR,JS,JT,JU,JV,JW,JX,JY,JZ,Y0,Y1,Y2,Y3,Y4,Y5,Y6,Y7,Y8,Y9,Ya,Yb,Yc,Yd,Ye,Yf,Yg,Yh,Yi,Yj,Yk,Yl,Ym,Yn,ial,Yo,Yp,Yq,Yr,Ys,Yt,Yu,Yv,ires,iresL,ires1,Yw,Yx,Yy,Yz,YA,YB,bin2,YC,YD,YE,YF,YG,YH,YI,YJ,YK,YL,YM,YN,YO,YP,YQ,YR,un1,shOk,eqL,eq1,fillL,putAt,IHeap.load1,IHeap.loadL,IHeap.storeL,YS,YT,YU,YV,YW,YX,YY,YZ,B0,B1,B2,B3,B4,B5,B6,B7,B8,B9,Ba,Bb,Bc,Bd,Be,Bf,Bg,Bh,Bi,Bj,Bk,Bl,Bm, nilOf, g2, r1, h12, hbd1, hput, hpq, Ne.symm hpq, g1, hw]
        exact fin _ rfl

theorem SGet_ok {p q : Nat} {bs : Nat → Nat} {L : List St} {id : Int} (h : IsS H p q bs L) (h0 : getS L id = none → ∀ H', H.le H' → K (.tuple #[stV 0 ⟨0, 0, 0, 0, []⟩ (.slice none 0 0), .bool false]) H')
    (h1 : ∀ x v H', getS L id = some x → H.le H' → SlW H' 1 v (x.sv.map rowI) → (∀ S : List Nat, (∀ b ∈ S, b < H.next) → Far H' v S) → K (.tuple #[stV id.toNat x v, .bool true]) H') :
    c.C (c.F n_smap_Map_Get) [.pointer (some ⟨p, 0, none⟩), .int .i64 id] H K := by
  refine c.enter hc.smap_Map_Get rfl ?_
  obtain ⟨HA, hHA⟩ : ∃ HA : IHeap, HA = H.alloc (.cells [.int .i64 0, .int .i64 0, .int .i64 0, .int .i64 0, .int .i64 0, .slice none 0 0] false) := ⟨_, rfl⟩
  have kA : H.le HA := by rw [hHA]; exact H.le_alloc _
  have nA : HA.next = H.next + 1 := by rw [hHA]; rfl
  have gA : HA.get H.next = some (.cells [.int .i64 0, .int .i64 0, .int .i64 0, .int .i64 0, .int .i64 0, .slice none 0 0] false) := by rw [hHA, YS, if_pos rfl]
  simp -implicitDefEqProofs [J0,J1,J2,J3,J4,J5,J6,J7,J8,J9,Ja,Jb,Jc,Jd,Je,Jf,Jg,Jh,Ji,Jj,Jk,Jl,Jm,Jn,Jo,Jp,Jq,Jr,Js,Jt,Ju,Jv,Jw,Jx,Jy,Jz,JA,JB,JC,JD,JE,JF,JG,JH,JI,JJ,JK,JL,JM,JN,JO,JP,stillI,IOp.kind,JQ,JR,JS,JT,JU,JV,JW,JX,JY,JZ,Y0,Y1,Y2,Y3,Y4,Y5,Y6,Y7,Y8,Y9,Ya,Yb,Yc,Yd,Ye,Yf,Yg,Yh,Yi,Yj,Yk,Yl,Ym,Yn,ial,Yo,Yp,Yq,Yr,Ys,Yt,Yu,Yv,ires,iresL,ires1,Yw,Yx,Yy,Yz,YA,YB,bin2,YC,YD,YE,YF,YG,YH,YI,YJ,YK,YL,YM,YN,YO,YP,YQ,YR,un1,shOk,eqL,eq1,fillL,putAt,IHeap.load1,IHeap.loadL,IHeap.storeL,YS,YT,YU,YV,YW,YX,YY,YZ,B0,B1,B2,B3,B4,B5,B6,B7,B8,B9,Ba,Bb,Bc,Bd,Be,Bf,Bg,Bh,Bi,Bj,Bk,Bl,Bm, c_smap_Map_Get, ← hHA]
  refine call_of (at_okS c hc (h.le kA) (fun hg => ?_) fun x hg => ?_)
  · simp -implicitDefEqProofs [J0,J1,J2,J3,J4,J5,J6,J7,J8,J9,Ja,Jb,Jc,Jd,Je,Jf,Jg,Jh,Ji,Jj,Jk,Jl,Jm,Jn,Jo,Jp,Jq,Jr,Js,Jt,Ju,Jv,Jw,Jx,Jy,Jz,JA,JB,JC,JD,JE,JF,JG,JH,JI,JJ,JK,JL,JM,JN,JO,JP,stillI,IOp.kind,JQ,JR,JS,JT,JU,JV,JW,JX,JY,JZ,Y0,Y1,Y2,Y3,Y4,Y5,Y6,Y7,Y8,Y9,Ya,Yb,Yc,Yd,Ye,Yf,Yg,Yh,Yi,Yj,Yk,Yl,Ym,Yn,ial,Yo,Yp,Yq,Yr,Ys,Yt,Yu,Yv,ires,iresL,ires1,Yw,Yx,Yy,Yz,YA,YB,bin2,YC,YD,YE,YF,YG,YH,YI,YJ,YK,YL,YM,YN,YO,YP,YQ,YR,un1,shOk,eqL,eq1,fillL,putAt,IHeap.load1,IHeap.loadL,IHeap.storeL,YS,YT,YU,YV,YW,YX,YY,YZ,B0,B1,B2,B3,B4,B5,B6,B7,B8,B9,Ba,Bb,Bc,Bd,Be,Bf,Bg,Bh,Bi,Bj,Bk,Bl,Bm, nilOf, gA]
    exact h0 hg _ (kA.set (Nat.le_refl _) _)
  · obtain ⟨i0, i1, hx⟩ := getS_some hg
    obtain ⟨g1, g2, hrow, hbd, hq, hpq⟩ := (h.le kA).at hx
    obtain ⟨cs, hcs⟩ : ∃ cs, cs = (rowsB bs L).flatten := ⟨_, rfl⟩
    rw [← hcs] at g2 hrow hbd
    have eid : ((id.toNat : Nat) : Int) = id := by omega
    simp only [rowSt, slS, eid] at hrow
    have hsl := (h.le kA).sl hx
    simp only [slS] at hsl
    have hxo := St.may_iff.1 (h.ok x (List.mem_of_getElem? hx)).may
    simp -implicitDefEqProofs [J0,J1,J2,J3,J4,J5,J6,J7,J8,J9,Ja,Jb,Jc,Jd,Je,Jf,Jg,Jh,Ji,Jj,Jk,Jl,Jm,Jn,Jo,Jp,Jq,Jr,Js,Jt,Ju,Jv,Jw,Jx,Jy,Jz,JA,JB,JC,JD,JE,JF,JG,JH,JI,JJ,JK,JL,JM,JN,JO,JP,stillI,IOp.kind,JQ,JR,JS,JT,JU,JV,JW,JX,JY,JZ,Y0,Y1,Y2,Y3,Y4,Y5,Y6,Y7,Y8,Y9,Ya,Yb,Yc,Yd,Ye,Yf,Yg,Yh,Yi,Yj,Yk,Yl,Ym,Yn,ial,Yo,Yp,Yq,Yr,Ys,Yt,Yu,Yv,ires,iresL,ires1,Yw,Yx,Yy,Yz,YA,YB,bin2,YC,YD,YE,YF,YG,YH,YI,YJ,YK,YL,YM,YN,YO,YP,YQ,YR,un1,shOk,eqL,eq1,fillL,putAt,IHeap.load1,IHeap.loadL,IHeap.storeL,YS,YT,YU,YV,YW,YX,YY,YZ,B0,B1,B2,B3,B4,B5,B6,B7,B8,B9,Ba,Bb,Bc,Bd,Be,Bf,Bg,Bh,Bi,Bj,Bk,Bl,Bm, nilOf, g2, hrow, hbd, List.length_cons]
    obtain ⟨HB, hHB⟩ : ∃ HB : IHeap, HB = (HA.alloc (.cells [.int .i64 0, .int .i64 0, .int .i64 0, .int .i64 0, .int .i64 0, .slice none 0 0] false)).set HA.next (.cells [.int .i64 id, .int .i64 x.st, .int .i64 x.ow, .int .i64 x.ep, .int .i64 x.le, .slice (some ⟨bs id.toNat, 0, none⟩) x.sv.length (UNK + 1)] false) := ⟨_, rfl⟩
    rw [← hHB]
    have kB : HA.le HB := by rw [hHB]; exact (HA.le_alloc _).set (Nat.le_refl _) _
    have nB : HB.next = HA.next + 1 := by rw [hHB]; rfl
    have gB : HB.get HA.next = some (.cells [.int .i64 id, .int .i64 x.st, .int .i64 x.ow, .int .i64 x.ep, .int .i64 x.le, .slice (some ⟨bs id.toNat, 0, none⟩) x.sv.length (UNK + 1)] false) := by rw [hHB, YT, if_pos rfl]
    refine call_of (Clone_ok c hc (hsl.le kB) (by omega) fun v' HC kC w1 w2 _ => ?_)
    have gC := (kC.get HA.next (by omega)).trans gB
    have gC2 := (kC.get H.next (by omega)).trans ((kB.get H.next (by omega)).trans gA)
    have w1' := w1
    obtain ⟨a, cap, rfl⟩ := w1.len
    have x1 : H.next ≠ HA.next := by omega
    simp -implicitDefEqProofs [J0,J1,J2,J3,J4,J5,J6,J7,J8,J9,Ja,Jb,Jc,Jd,Je,Jf,Jg,Jh,Ji,Jj,Jk,Jl,Jm,Jn,Jo,Jp,Jq,Jr,Js,Jt,Ju,Jv,Jw,Jx,Jy,Jz,JA,JB,JC,JD,JE,JF,JG,JH,JI,JJ,JK,JL,JM,JN,JO,JP,stillI,IOp.kind,JQ,JR,JS,JT,JU,JV,JW,JX,JY,JZ,Y0,Y1,Y2,Y3,Y4,Y5,Y6,Y7,Y8,Y9,Ya,Yb,Yc,Yd,Ye,Yf,Yg,Yh,Yi,Yj,Yk,Yl,Ym,Yn,ial,Yo,Yp,Yq,Yr,Ys,Yt,Yu,Yv,ires,iresL,ires1,Yw,Yx,Yy,Yz,YA,YB,bin2,YC,YD,YE,YF,YG,YH,YI,YJ,YK,YL,YM,YN,YO,YP,YQ,YR,un1,shOk,eqL,eq1,fillL,putAt,IHeap.load1,IHeap.loadL,IHeap.storeL,YS,YT,YU,YV,YW,YX,YY,YZ,B0,B1,B2,B3,B4,B5,B6,B7,B8,B9,Ba,Bb,Bc,Bd,Be,Bf,Bg,Bh,Bi,Bj,Bk,Bl,Bm, gC, gC2, x1, Ne.symm x1, List.length_map]
    have nC := kC.next
    have up : ∀ y z, IHeap.upd [H.next, HA.next] HC ((HC.set HA.next y).set H.next z) := fun y z => ((IHeap.upd_refl _ _).set (.inr (by simp)) _).set (.inr (by simp)) _
    have kD : ∀ y z, H.le ((HC.set HA.next y).set H.next z) := fun y z => (((kA.trans kB).trans kC).set (by omega) _).set (Nat.le_refl _) _
    have hin : ∀ b ∈ [H.next, HA.next], b < HB.next := fun b hb => by simp only [List.mem_cons, List.not_mem_nil, or_false] at hb; omega
    have := fun y z => h1 x _ _ hg (kD y z) (w1'.upd (w2 _ hin).off (up y z)) (fun S hS => (w2 S fun b hb => by have := hS b hb; omega).le (by simp only [YV]; exact Nat.le_refl _))
    simp only [stV, eid, List.length_map] at this
    exact this _ _

end
end Go.Proofs.YtmdkkhnenciknaaI
