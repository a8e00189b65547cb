/- The document's answer for who is in a group: a swap, a spare. -/
import Derived.Test.YtkphglpmhebglaaRefM2
namespace Go.Proofs.YtkphglpmhebglaaI
set_option linter.unusedSimpArgs false
set_option linter.unusedVariables false
open Go

section
variable (c : Ctx) (hR : HasRef23 c) {H : IHeap} {K : Value → IHeap → Prop}

include hR in
theorem RSwap_ok23 {S : List Nat} {v : Value} {m : Mem} {e : Int} (h : RM H S v m) (hok : m.ok) (hb : m.e < 4611686018427387904) (hSl : ∀ b ∈ S, b < H.next) (hK : ∀ v' H', H.le H' → RM H' S v' (m.swap e).1 → K (.tuple #[v', .int .i64 (m.swap e).2.1, .int .i64 (m.swap e).2.2]) H') :
    c.C (c.F n_hurdleref23_Swap) [v, .int .i64 e] H K := by
  refine c.enter hR.hurdleref23_Swap rfl ?_
  have hm := h
  obtain ⟨v1, v2, rfl, w1, w2, o1, o2⟩ := h
  have hep := hok.ep
  have hh1 := hok.h1
  have hh2 := hok.h2
  have h8 := hok.eight
  have h64 := hok.sl
  obtain ⟨a1, c1, rfl⟩ := w1.len
  obtain ⟨a2, c2, rfl⟩ := w2.len
  simp only [List.length_map] at hm w1 w2 o1 o2
  have leX : ∀ x y, H.le ((H.alloc x).alloc y) := fun x y => (H.le_alloc _).alloc _
  unfold Mem.swap at hK
  cases hS : m.S with
  | nil =>
    rw [hS] at hK hm
    simp only at hK
    simp -implicitDefEqProofs [J0,J1,J2,J3,J4,J5,J6,J7,J8,J9,Ja,Jb,Jc,Jd,Je,Jf,Jg,Jh,Ji,Jj,Jk,Jl,Jm,Jn,Jo,Jp,Jq,Jr,Js,Jt,Ju,Jv,Jw,Jx,Jy,Jz,JA,JB,JC,JD,JE,JF,JG,JH,JI,JJ,JK,JL,JM,JN,JO,JP,stillI,IOp.kind,JQ,JR,JS,JT,JU,JV,JW,JX,JY,JZ,Y0,Y1,Y2,Y3,Y4,Y5,Y6,Y7,Y8,Y9,Ya,Yb,Yc,Yd,Ye,Yf,Yg,Yh,Yi,Yj,Yk,Yl,Ym,Yn,ial,Yo,Yp,Yq,Yr,Ys,Yt,Yu,Yv,ires,iresL,ires1,Yw,Yx,Yy,Yz,YA,YB,bin2,YC,YD,YE,YF,YG,YH,YI,YJ,YK,YL,YM,YN,YO,YP,YQ,YR,un1,shOk,eqL,eq1,fillL,putAt,IHeap.load1,IHeap.loadL,IHeap.storeL,YS,YT,YU,YV,YW,YX,YY,YZ,B0,B1,B2,B3,B4,B5,B6,B7,B8,B9,Ba,Bb,Bc,Bd,Be,Bf,Bg,Bh,Bi,Bj,Bk,Bl,Bm, c_hurdleref23_Swap, hS]
    exact hK _ _ ((leX _ _).set (by omega) _) (hm.le ((leX _ _).set (by omega) _))
  | cons s r =>
    rw [hS] at hK h64
    simp only [List.length_cons] at h64
    simp only at hK
    have hz : ¬ ((r.length : Int) + 1 = 0) := by omega
    have hz' : (0 : Int) < (r.length : Int) + 1 := by omega
    by_cases he : e = m.e
    · rw [if_neg (by simpa using he)] at hK
      by_cases hbad : m.h < 0 ∨ m.f = true
      · rw [if_pos hbad] at hK
        rw [hS] at hm
        by_cases hh : m.h < 0
        · simp -implicitDefEqProofs [J0,J1,J2,J3,J4,J5,J6,J7,J8,J9,Ja,Jb,Jc,Jd,Je,Jf,Jg,Jh,Ji,Jj,Jk,Jl,Jm,Jn,Jo,Jp,Jq,Jr,Js,Jt,Ju,Jv,Jw,Jx,Jy,Jz,JA,JB,JC,JD,JE,JF,JG,JH,JI,JJ,JK,JL,JM,JN,JO,JP,stillI,IOp.kind,JQ,JR,JS,JT,JU,JV,JW,JX,JY,JZ,Y0,Y1,Y2,Y3,Y4,Y5,Y6,Y7,Y8,Y9,Ya,Yb,Yc,Yd,Ye,Yf,Yg,Yh,Yi,Yj,Yk,Yl,Ym,Yn,ial,Yo,Yp,Yq,Yr,Ys,Yt,Yu,Yv,ires,iresL,ires1,Yw,Yx,Yy,Yz,YA,YB,bin2,YC,YD,YE,YF,YG,YH,YI,YJ,YK,YL,YM,YN,YO,YP,YQ,YR,un1,shOk,eqL,eq1,fillL,putAt,IHeap.load1,IHeap.loadL,IHeap.storeL,YS,YT,YU,YV,YW,YX,YY,YZ,B0,B1,B2,B3,B4,B5,B6,B7,B8,B9,Ba,Bb,Bc,Bd,Be,Bf,Bg,Bh,Bi,Bj,Bk,Bl,Bm, c_hurdleref23_Swap, hS, hz, he, hh]
          exact hK _ _ ((leX _ _).set (by omega) _) (hm.le ((leX _ _).set (by omega) _))
        · have hf : m.f = true := hbad.resolve_left (by omega)
          rw [hf] at hm
          simp -implicitDefEqProofs [J0,J1,J2,J3,J4,J5,J6,J7,J8,J9,Ja,Jb,Jc,Jd,Je,Jf,Jg,Jh,Ji,Jj,Jk,Jl,Jm,Jn,Jo,Jp,Jq,Jr,Js,Jt,Ju,Jv,Jw,Jx,Jy,Jz,JA,JB,JC,JD,JE,JF,JG,JH,JI,JJ,JK,JL,JM,JN,JO,JP,stillI,IOp.kind,JQ,JR,JS,JT,JU,JV,JW,JX,JY,JZ,Y0,Y1,Y2,Y3,Y4,Y5,Y6,Y7,Y8,Y9,Ya,Yb,Yc,Yd,Ye,Yf,Yg,Yh,Yi,Yj,Yk,Yl,Ym,Yn,ial,Yo,Yp,Yq,Yr,Ys,Yt,Yu,Yv,ires,iresL,ires1,Yw,Yx,Yy,Yz,YA,YB,bin2,YC,YD,YE,YF,YG,YH,YI,YJ,YK,YL,YM,YN,YO,YP,YQ,YR,un1,shOk,eqL,eq1,fillL,putAt,IHeap.load1,IHeap.loadL,IHeap.storeL,YS,YT,YU,YV,YW,YX,YY,YZ,B0,B1,B2,B3,B4,B5,B6,B7,B8,B9,Ba,Bb,Bc,Bd,Be,Bf,Bg,Bh,Bi,Bj,Bk,Bl,Bm, c_hurdleref23_Swap, hS, hz, he, hh, hf]
          exact hK _ _ ((leX _ _).set (by omega) _) (hm.le ((leX _ _).set (by omega) _))
      · rw [if_neg hbad] at hK
        have hh : ¬ m.h < 0 := by omega
        have hh0 : 0 ≤ m.h := by omega
        have hf : m.f = false := by
          have : ¬ m.f = true := fun hx => hbad (.inr hx)
          simpa using this
        have hw : IntKind.i64.wrap (m.e + 1) = m.e + 1 := wrap64 (by omega) (by omega)
        rw [hS] at w2
        simp only [List.length_cons, List.map_cons] at w2
        obtain ⟨HA, hHA⟩ : ∃ HA : IHeap, HA = ((H.alloc (.cells [.slice a1 m.L.length c1, .slice a2 m.S.length c2, .int .i64 m.e, .int .i64 m.h, .bool m.f, .int .i64 m.g] false)).alloc (.cells [.slice none 0 0, .slice none 0 0, .int .i64 0, .int .i64 0, .bool false, .int .i64 0] false)) := ⟨_, rfl⟩
        have kA : H.le HA := by rw [hHA]; exact leX _ _
        have nA : HA.next = H.next + 1 + 1 := by rw [hHA]; rfl
        have gA : HA.get H.next = some (.cells [.slice a1 m.L.length c1, .slice a2 m.S.length c2, .int .i64 m.e, .int .i64 m.h, .bool m.f, .int .i64 m.g] false) := by rw [hHA]; simp -implicitDefEqProofs [J0,J1,J2,J3,J4,J5,J6,J7,J8,J9,Ja,Jb,Jc,Jd,Je,Jf,Jg,Jh,Ji,Jj,Jk,Jl,Jm,Jn,Jo,Jp,Jq,Jr,Js,Jt,Ju,Jv,Jw,Jx,Jy,Jz,JA,JB,JC,JD,JE,JF,JG,JH,JI,JJ,JK,JL,JM,JN,JO,JP,stillI,IOp.kind,JQ,JR,JS,JT,JU,JV,JW,JX,JY,JZ,Y0,Y1,Y2,Y3,Y4,Y5,Y6,Y7,Y8,Y9,Ya,Yb,Yc,Yd,Ye,Yf,Yg,Yh,Yi,Yj,Yk,Yl,Ym,Yn,ial,Yo,Yp,Yq,Yr,Ys,Yt,Yu,Yv,ires,iresL,ires1,Yw,Yx,Yy,Yz,YA,YB,bin2,YC,YD,YE,YF,YG,YH,YI,YJ,YK,YL,YM,YN,YO,YP,YQ,YR,un1,shOk,eqL,eq1,fillL,putAt,IHeap.load1,IHeap.loadL,IHeap.storeL,YS,YT,YU,YV,YW,YX,YY,YZ,B0,B1,B2,B3,B4,B5,B6,B7,B8,B9,Ba,Bb,Bc,Bd,Be,Bf,Bg,Bh,Bi,Bj,Bk,Bl,Bm]
        have gA' : HA.get (H.next + 1) = some (.cells [.slice none 0 0, .slice none 0 0, .int .i64 0, .int .i64 0, .bool false, .int .i64 0] false) := by rw [hHA]; simp -implicitDefEqProofs [J0,J1,J2,J3,J4,J5,J6,J7,J8,J9,Ja,Jb,Jc,Jd,Je,Jf,Jg,Jh,Ji,Jj,Jk,Jl,Jm,Jn,Jo,Jp,Jq,Jr,Js,Jt,Ju,Jv,Jw,Jx,Jy,Jz,JA,JB,JC,JD,JE,JF,JG,JH,JI,JJ,JK,JL,JM,JN,JO,JP,stillI,IOp.kind,JQ,JR,JS,JT,JU,JV,JW,JX,JY,JZ,Y0,Y1,Y2,Y3,Y4,Y5,Y6,Y7,Y8,Y9,Ya,Yb,Yc,Yd,Ye,Yf,Yg,Yh,Yi,Yj,Yk,Yl,Ym,Yn,ial,Yo,Yp,Yq,Yr,Ys,Yt,Yu,Yv,ires,iresL,ires1,Yw,Yx,Yy,Yz,YA,YB,bin2,YC,YD,YE,YF,YG,YH,YI,YJ,YK,YL,YM,YN,YO,YP,YQ,YR,un1,shOk,eqL,eq1,fillL,putAt,IHeap.load1,IHeap.loadL,IHeap.storeL,YS,YT,YU,YV,YW,YX,YY,YZ,B0,B1,B2,B3,B4,B5,B6,B7,B8,B9,Ba,Bb,Bc,Bd,Be,Bf,Bg,Bh,Bi,Bj,Bk,Bl,Bm]
        rw [hS, hf] at hHA
        rw [hS, hf] at gA
        simp only [List.length_cons] at hHA gA
        obtain ⟨b2, o2', cp2, cs2, ro2, e2, hb2, hget2, hat2⟩ := (w2.le kA).1.at1 (i := 0) (x := .int .i64 s) (by simp [rowI])
        simp only [Value.slice.injEq] at e2
        obtain ⟨rfl, -, rfl⟩ := e2
        obtain ⟨f1, v3, H3, e3, gr3, k3⟩ := app_ok (l := m.L) (old := []) (B := HA.next) (w1.le kA) (Grow.nil _ _ _) (Nat.le_refl _) (by omega) (by simp)
        rw [← List.map_cons] at w2
        rw [Nat.add_zero] at hat2
        have n3 := k3.next
        have k3l := k3.le (Nat.le_refl _)
        obtain ⟨blk, hbl, hbn, rfl, hgb⟩ : ∃ blk, HA.next ≤ blk ∧ blk < H3.next ∧ v3 = .slice (some ⟨blk, 0, none⟩) m.L.length (UNK + 1) ∧ H3.get blk = some (.cells (m.L.map iV) false) := by
          rcases gr3 with ⟨e0, _⟩ | ⟨_, blk, q1, q2, q3, q4⟩
          · exfalso
            have := hok.two
            simp only [List.nil_append, List.map_eq_nil_iff] at e0
            rw [e0] at this; simp at this
          · refine ⟨blk, q1, q2, by simpa using q3, ?_⟩
            rw [q4, List.nil_append, flat_rowI]
        have g3 : H3.get H.next = _ := (k3l.get H.next (by omega)).trans gA
        have g3' : H3.get (H.next + 1) = _ := (k3l.get (H.next + 1) (by omega)).trans gA'
        have x1 : H.next ≠ blk := by omega
        have x2 : H.next + 1 ≠ blk := by omega
        have hht : m.h.toNat < m.L.length := by omega
        have hst : m.h.toNat + 1 ≤ m.L.length := by omega
        have hput := putAt_iV hht s
        have hput' : List.take m.h.toNat (List.map iV m.L) ++ Value.int .i64 s :: List.drop (m.h.toNat + 1) (List.map iV m.L) = (m.L.map iV).set m.h.toNat (iV s) := by
          have : putAt (List.map iV m.L) m.h.toNat [.int .i64 s] = List.take m.h.toNat (List.map iV m.L) ++ Value.int .i64 s :: List.drop (m.h.toNat + 1) (List.map iV m.L) := by simp [putAt]
          rw [← this, hput, List.map_set]
        obtain ⟨H4, hH4⟩ : ∃ H4 : IHeap, H4 = (H3.set blk (.cells ((m.L.map iV).set m.h.toNat (iV s)) false)).set H.next (.cells [.slice (some ⟨blk, 0, none⟩) m.L.length (UNK + 1), .slice (some ⟨b2, o2', none⟩) (r.length + 1) c2, .int .i64 m.e, .int .i64 m.h, .bool false, .int .i64 m.g] false) := ⟨_, rfl⟩
        have n4 : H4.next = H3.next := by rw [hH4]; rfl
        have k4 : H.le H4 := by rw [hH4]; exact ((kA.trans k3l).set (by omega) _).set (Nat.le_refl _) _
        have g4 : H4.get H.next = some (.cells [.slice (some ⟨blk, 0, none⟩) m.L.length (UNK + 1), .slice (some ⟨b2, o2', none⟩) (r.length + 1) c2, .int .i64 m.e, .int .i64 m.h, .bool false, .int .i64 m.g] false) := by rw [hH4, YT, if_pos rfl]
        have g4' : H4.get (H.next + 1) = some (.cells [.slice none 0 0, .slice none 0 0, .int .i64 0, .int .i64 0, .bool false, .int .i64 0] false) := by rw [hH4, YT, if_neg (by omega), YT, if_neg x2]; exact g3'
        have g4b : H4.get blk = some (.cells ((m.L.set m.h.toNat s).map iV) false) := by rw [hH4, YT, if_neg (Ne.symm x1), YT, if_pos rfl, List.map_set]
        obtain ⟨v5, hcut, w5⟩ := (w2.le k4).cut (i := 1) (j := r.length + 1) (by omega) (by omega) (by simp)
        have hrows : (((s :: r).map rowI).drop 1).take (r.length + 1 - 1) = r.map rowI := by simp [List.take_of_length_le]
        rw [hrows] at w5
        have w5' := w5
        obtain ⟨a5, c5, rfl⟩ := w5.len
        obtain ⟨f6, v6, H6, e6, gr6, k6⟩ := app_ok (l := r) (old := []) (B := H4.next) w5' (Grow.nil _ _ _) (Nat.le_refl _) (by omega) (by simp)
        have gr6' := gr6
        obtain ⟨a6, c6, rfl⟩ := gr6.len
        simp only [List.nil_append, List.length_map] at e6 hcut f6 gr6'
        have n6 := k6.next
        have k6l := k6.le (Nat.le_refl _)
        have g6 : H6.get H.next = _ := (k6l.get H.next (by omega)).trans g4
        have g6' : H6.get (H.next + 1) = _ := (k6l.get (H.next + 1) (by omega)).trans g4'
        have g6b : H6.get blk = _ := (k6l.get blk (by omega)).trans g4b
        simp -implicitDefEqProofs [J0,J1,J2,J3,J4,J5,J6,J7,J8,J9,Ja,Jb,Jc,Jd,Je,Jf,Jg,Jh,Ji,Jj,Jk,Jl,Jm,Jn,Jo,Jp,Jq,Jr,Js,Jt,Ju,Jv,Jw,Jx,Jy,Jz,JA,JB,JC,JD,JE,JF,JG,JH,JI,JJ,JK,JL,JM,JN,JO,JP,stillI,IOp.kind,JQ,JR,JS,JT,JU,JV,JW,JX,JY,JZ,Y0,Y1,Y2,Y3,Y4,Y5,Y6,Y7,Y8,Y9,Ya,Yb,Yc,Yd,Ye,Yf,Yg,Yh,Yi,Yj,Yk,Yl,Ym,Yn,ial,Yo,Yp,Yq,Yr,Ys,Yt,Yu,Yv,ires,iresL,ires1,Yw,Yx,Yy,Yz,YA,YB,bin2,YC,YD,YE,YF,YG,YH,YI,YJ,YK,YL,YM,YN,YO,YP,YQ,YR,un1,shOk,eqL,eq1,fillL,putAt,IHeap.load1,IHeap.loadL,IHeap.storeL,YS,YT,YU,YV,YW,YX,YY,YZ,B0,B1,B2,B3,B4,B5,B6,B7,B8,B9,Ba,Bb,Bc,Bd,Be,Bf,Bg,Bh,Bi,Bj,Bk,Bl,Bm, c_hurdleref23_Swap, hS, hz, hz', he, hh, hf, ← hHA, gA, hget2, hat2, lenOfI, f1, e3, boundsI, natI, hh0, hh2, hgb, hst, g3, x1, x2, hput', ← hH4, g4, hcut, f6, e6, g6, g6', hw]
        have own : Own H6 HA.next 1 (.slice (some ⟨blk, 0, none⟩) m.L.length (UNK + 1)) ((m.L.set m.h.toNat s).map rowI) :=
          ⟨fun r hr => by obtain ⟨x, _, rfl⟩ := List.mem_map.1 hr; rfl, blk, hbl, by omega, by simp, by rw [g6b, flat_rowI]⟩
        have up : ∀ x1 x2 x3 x4, IHeap.upd [H.next, H.next + 1] H6 ((((H6.set H.next x1).set H.next x2).set H.next x3).set (H.next + 1) x4) := fun x1 x2 x3 x4 =>
          ((((IHeap.upd_refl _ _).set (.inr (by simp)) _).set (.inr (by simp)) _).set (.inr (by simp)) _).set (.inr (by simp)) _
        refine hK _ _ (((((k4.trans k6l).set (Nat.le_refl _) _).set (Nat.le_refl _) _).set (Nat.le_refl _) _).set (by omega) _) ⟨_, _, rfl, ?_, ?_, ?_, ?_⟩
        · refine own.slw.upd ?_ (up _ _ _ _)
          exact Grow.off (.inr own) fun b hb => by simp only [List.mem_cons, List.not_mem_nil, or_false] at hb; omega
        · refine gr6'.slw.upd ?_ (up _ _ _ _)
          exact Grow.off gr6' fun b hb => by simp only [List.mem_cons, List.not_mem_nil, or_false] at hb; omega
        · exact Grow.far (.inr own) (by simp only [YV]; exact Nat.le_refl _) fun b hb => by have := hSl b hb; omega
        · exact Grow.far gr6' (by simp only [YV]; exact Nat.le_refl _) fun b hb => by have := hSl b hb; omega
    · rw [if_pos he] at hK
      rw [hS] at hm
      simp -implicitDefEqProofs [J0,J1,J2,J3,J4,J5,J6,J7,J8,J9,Ja,Jb,Jc,Jd,Je,Jf,Jg,Jh,Ji,Jj,Jk,Jl,Jm,Jn,Jo,Jp,Jq,Jr,Js,Jt,Ju,Jv,Jw,Jx,Jy,Jz,JA,JB,JC,JD,JE,JF,JG,JH,JI,JJ,JK,JL,JM,JN,JO,JP,stillI,IOp.kind,JQ,JR,JS,JT,JU,JV,JW,JX,JY,JZ,Y0,Y1,Y2,Y3,Y4,Y5,Y6,Y7,Y8,Y9,Ya,Yb,Yc,Yd,Ye,Yf,Yg,Yh,Yi,Yj,Yk,Yl,Ym,Yn,ial,Yo,Yp,Yq,Yr,Ys,Yt,Yu,Yv,ires,iresL,ires1,Yw,Yx,Yy,Yz,YA,YB,bin2,YC,YD,YE,YF,YG,YH,YI,YJ,YK,YL,YM,YN,YO,YP,YQ,YR,un1,shOk,eqL,eq1,fillL,putAt,IHeap.load1,IHeap.loadL,IHeap.storeL,YS,YT,YU,YV,YW,YX,YY,YZ,B0,B1,B2,B3,B4,B5,B6,B7,B8,B9,Ba,Bb,Bc,Bd,Be,Bf,Bg,Bh,Bi,Bj,Bk,Bl,Bm, c_hurdleref23_Swap, hS, hz, he]
      exact hK _ _ ((leX _ _).set (by omega) _) (hm.le ((leX _ _).set (by omega) _))

include hR in
theorem RAdd_ok23 {S : List Nat} {v : Value} {m : Mem} {s : Int} (h : RM H S v m) (hok : m.ok) (hSl : ∀ b ∈ S, b < H.next) (hK : ∀ v' H', H.le H' → RM H' S v' (m.add s).1 → K (.tuple #[v', .int .i64 (m.add s).2]) H') :
    c.C (c.F n_hurdleref23_Add) [v, .int .i64 s] H K := by
  refine c.enter hR.hurdleref23_Add rfl ?_
  have hm := h
  obtain ⟨v1, v2, rfl, w1, w2, o1, o2⟩ := h
  have h8 := hok.eight
  have h64 := hok.sl
  obtain ⟨a1, c1, rfl⟩ := w1.len
  obtain ⟨a2, c2, rfl⟩ := w2.len
  simp only [List.length_map] at hm w1 w2 o1 o2
  have leX : ∀ x y, H.le ((H.alloc x).alloc y) := fun x y => (H.le_alloc _).alloc _
  unfold Mem.add at hK
  by_cases hbad : s < 0 ∨ 63 < s
  · rw [if_pos hbad] at hK
    by_cases h0 : s < 0
    · simp -implicitDefEqProofs [J0,J1,J2,J3,J4,J5,J6,J7,J8,J9,Ja,Jb,Jc,Jd,Je,Jf,Jg,Jh,Ji,Jj,Jk,Jl,Jm,Jn,Jo,Jp,Jq,Jr,Js,Jt,Ju,Jv,Jw,Jx,Jy,Jz,JA,JB,JC,JD,JE,JF,JG,JH,JI,JJ,JK,JL,JM,JN,JO,JP,stillI,IOp.kind,JQ,JR,JS,JT,JU,JV,JW,JX,JY,JZ,Y0,Y1,Y2,Y3,Y4,Y5,Y6,Y7,Y8,Y9,Ya,Yb,Yc,Yd,Ye,Yf,Yg,Yh,Yi,Yj,Yk,Yl,Ym,Yn,ial,Yo,Yp,Yq,Yr,Ys,Yt,Yu,Yv,ires,iresL,ires1,Yw,Yx,Yy,Yz,YA,YB,bin2,YC,YD,YE,YF,YG,YH,YI,YJ,YK,YL,YM,YN,YO,YP,YQ,YR,un1,shOk,eqL,eq1,fillL,putAt,IHeap.load1,IHeap.loadL,IHeap.storeL,YS,YT,YU,YV,YW,YX,YY,YZ,B0,B1,B2,B3,B4,B5,B6,B7,B8,B9,Ba,Bb,Bc,Bd,Be,Bf,Bg,Bh,Bi,Bj,Bk,Bl,Bm, c_hurdleref23_Add, h0]
      exact hK _ _ ((leX _ _).set (by omega) _) (hm.le ((leX _ _).set (by omega) _))
    · have h63 : 63 < s := by omega
      simp -implicitDefEqProofs [J0,J1,J2,J3,J4,J5,J6,J7,J8,J9,Ja,Jb,Jc,Jd,Je,Jf,Jg,Jh,Ji,Jj,Jk,Jl,Jm,Jn,Jo,Jp,Jq,Jr,Js,Jt,Ju,Jv,Jw,Jx,Jy,Jz,JA,JB,JC,JD,JE,JF,JG,JH,JI,JJ,JK,JL,JM,JN,JO,JP,stillI,IOp.kind,JQ,JR,JS,JT,JU,JV,JW,JX,JY,JZ,Y0,Y1,Y2,Y3,Y4,Y5,Y6,Y7,Y8,Y9,Ya,Yb,Yc,Yd,Ye,Yf,Yg,Yh,Yi,Yj,Yk,Yl,Ym,Yn,ial,Yo,Yp,Yq,Yr,Ys,Yt,Yu,Yv,ires,iresL,ires1,Yw,Yx,Yy,Yz,YA,YB,bin2,YC,YD,YE,YF,YG,YH,YI,YJ,YK,YL,YM,YN,YO,YP,YQ,YR,un1,shOk,eqL,eq1,fillL,putAt,IHeap.load1,IHeap.loadL,IHeap.storeL,YS,YT,YU,YV,YW,YX,YY,YZ,B0,B1,B2,B3,B4,B5,B6,B7,B8,B9,Ba,Bb,Bc,Bd,Be,Bf,Bg,Bh,Bi,Bj,Bk,Bl,Bm, c_hurdleref23_Add, h0, h63]
      exact hK _ _ ((leX _ _).set (by omega) _) (hm.le ((leX _ _).set (by omega) _))
  · rw [if_neg hbad] at hK
    have h0 : ¬ s < 0 := by omega
    have h63 : ¬ 63 < s := by omega
    simp -implicitDefEqProofs [J0,J1,J2,J3,J4,J5,J6,J7,J8,J9,Ja,Jb,Jc,Jd,Je,Jf,Jg,Jh,Ji,Jj,Jk,Jl,Jm,Jn,Jo,Jp,Jq,Jr,Js,Jt,Ju,Jv,Jw,Jx,Jy,Jz,JA,JB,JC,JD,JE,JF,JG,JH,JI,JJ,JK,JL,JM,JN,JO,JP,stillI,IOp.kind,JQ,JR,JS,JT,JU,JV,JW,JX,JY,JZ,Y0,Y1,Y2,Y3,Y4,Y5,Y6,Y7,Y8,Y9,Ya,Yb,Yc,Yd,Ye,Yf,Yg,Yh,Yi,Yj,Yk,Yl,Ym,Yn,ial,Yo,Yp,Yq,Yr,Ys,Yt,Yu,Yv,ires,iresL,ires1,Yw,Yx,Yy,Yz,YA,YB,bin2,YC,YD,YE,YF,YG,YH,YI,YJ,YK,YL,YM,YN,YO,YP,YQ,YR,un1,shOk,eqL,eq1,fillL,putAt,IHeap.load1,IHeap.loadL,IHeap.storeL,YS,YT,YU,YV,YW,YX,YY,YZ,B0,B1,B2,B3,B4,B5,B6,B7,B8,B9,Ba,Bb,Bc,Bd,Be,Bf,Bg,Bh,Bi,Bj,Bk,Bl,Bm, c_hurdleref23_Add, h0, h63]
    obtain ⟨HA, hHA⟩ : ∃ HA : IHeap, HA = ((H.alloc (.cells [.slice a1 m.L.length c1, .slice a2 m.S.length c2, .int .i64 m.e, .int .i64 m.h, .bool m.f, .int .i64 m.g] false)).alloc (.cells [.slice none 0 0, .slice none 0 0, .int .i64 0, .int .i64 0, .bool false, .int .i64 0] false)) := ⟨_, rfl⟩
    have kA : H.le HA := by rw [hHA]; exact leX _ _
    have nA : HA.next = H.next + 1 + 1 := by rw [hHA]; rfl
    have gA : HA.get H.next = some (.cells [.slice a1 m.L.length c1, .slice a2 m.S.length c2, .int .i64 m.e, .int .i64 m.h, .bool m.f, .int .i64 m.g] false) := by rw [hHA]; simp -implicitDefEqProofs [J0,J1,J2,J3,J4,J5,J6,J7,J8,J9,Ja,Jb,Jc,Jd,Je,Jf,Jg,Jh,Ji,Jj,Jk,Jl,Jm,Jn,Jo,Jp,Jq,Jr,Js,Jt,Ju,Jv,Jw,Jx,Jy,Jz,JA,JB,JC,JD,JE,JF,JG,JH,JI,JJ,JK,JL,JM,JN,JO,JP,stillI,IOp.kind,JQ,JR,JS,JT,JU,JV,JW,JX,JY,JZ,Y0,Y1,Y2,Y3,Y4,Y5,Y6,Y7,Y8,Y9,Ya,Yb,Yc,Yd,Ye,Yf,Yg,Yh,Yi,Yj,Yk,Yl,Ym,Yn,ial,Yo,Yp,Yq,Yr,Ys,Yt,Yu,Yv,ires,iresL,ires1,Yw,Yx,Yy,Yz,YA,YB,bin2,YC,YD,YE,YF,YG,YH,YI,YJ,YK,YL,YM,YN,YO,YP,YQ,YR,un1,shOk,eqL,eq1,fillL,putAt,IHeap.load1,IHeap.loadL,IHeap.storeL,YS,YT,YU,YV,YW,YX,YY,YZ,B0,B1,B2,B3,B4,B5,B6,B7,B8,B9,Ba,Bb,Bc,Bd,Be,Bf,Bg,Bh,Bi,Bj,Bk,Bl,Bm]
    have gA' : HA.get (H.next + 1) = some (.cells [.slice none 0 0, .slice none 0 0, .int .i64 0, .int .i64 0, .bool false, .int .i64 0] false) := by rw [hHA]; simp -implicitDefEqProofs [J0,J1,J2,J3,J4,J5,J6,J7,J8,J9,Ja,Jb,Jc,Jd,Je,Jf,Jg,Jh,Ji,Jj,Jk,Jl,Jm,Jn,Jo,Jp,Jq,Jr,Js,Jt,Ju,Jv,Jw,Jx,Jy,Jz,JA,JB,JC,JD,JE,JF,JG,JH,JI,JJ,JK,JL,JM,JN,JO,JP,stillI,IOp.kind,JQ,JR,JS,JT,JU,JV,JW,JX,JY,JZ,Y0,Y1,Y2,Y3,Y4,Y5,Y6,Y7,Y8,Y9,Ya,Yb,Yc,Yd,Ye,Yf,Yg,Yh,Yi,Yj,Yk,Yl,Ym,Yn,ial,Yo,Yp,Yq,Yr,Ys,Yt,Yu,Yv,ires,iresL,ires1,Yw,Yx,Yy,Yz,YA,YB,bin2,YC,YD,YE,YF,YG,YH,YI,YJ,YK,YL,YM,YN,YO,YP,YQ,YR,un1,shOk,eqL,eq1,fillL,putAt,IHeap.load1,IHeap.loadL,IHeap.storeL,YS,YT,YU,YV,YW,YX,YY,YZ,B0,B1,B2,B3,B4,B5,B6,B7,B8,B9,Ba,Bb,Bc,Bd,Be,Bf,Bg,Bh,Bi,Bj,Bk,Bl,Bm]
    rw [← hHA]
    refine call_of (At_ok c hR (w1.le kA) (by omega) ?_)
    by_cases y1 : 0 ≤ atI m.L s
    · rw [if_pos (.inl y1)] at hK
      simp -implicitDefEqProofs [J0,J1,J2,J3,J4,J5,J6,J7,J8,J9,Ja,Jb,Jc,Jd,Je,Jf,Jg,Jh,Ji,Jj,Jk,Jl,Jm,Jn,Jo,Jp,Jq,Jr,Js,Jt,Ju,Jv,Jw,Jx,Jy,Jz,JA,JB,JC,JD,JE,JF,JG,JH,JI,JJ,JK,JL,JM,JN,JO,JP,stillI,IOp.kind,JQ,JR,JS,JT,JU,JV,JW,JX,JY,JZ,Y0,Y1,Y2,Y3,Y4,Y5,Y6,Y7,Y8,Y9,Ya,Yb,Yc,Yd,Ye,Yf,Yg,Yh,Yi,Yj,Yk,Yl,Ym,Yn,ial,Yo,Yp,Yq,Yr,Ys,Yt,Yu,Yv,ires,iresL,ires1,Yw,Yx,Yy,Yz,YA,YB,bin2,YC,YD,YE,YF,YG,YH,YI,YJ,YK,YL,YM,YN,YO,YP,YQ,YR,un1,shOk,eqL,eq1,fillL,putAt,IHeap.load1,IHeap.loadL,IHeap.storeL,YS,YT,YU,YV,YW,YX,YY,YZ,B0,B1,B2,B3,B4,B5,B6,B7,B8,B9,Ba,Bb,Bc,Bd,Be,Bf,Bg,Bh,Bi,Bj,Bk,Bl,Bm, y1, gA, gA', fillL, putAt]
      exact hK _ _ (kA.set (by omega) _) (hm.le (kA.set (by omega) _))
    · simp -implicitDefEqProofs [J0,J1,J2,J3,J4,J5,J6,J7,J8,J9,Ja,Jb,Jc,Jd,Je,Jf,Jg,Jh,Ji,Jj,Jk,Jl,Jm,Jn,Jo,Jp,Jq,Jr,Js,Jt,Ju,Jv,Jw,Jx,Jy,Jz,JA,JB,JC,JD,JE,JF,JG,JH,JI,JJ,JK,JL,JM,JN,JO,JP,stillI,IOp.kind,JQ,JR,JS,JT,JU,JV,JW,JX,JY,JZ,Y0,Y1,Y2,Y3,Y4,Y5,Y6,Y7,Y8,Y9,Ya,Yb,Yc,Yd,Ye,Yf,Yg,Yh,Yi,Yj,Yk,Yl,Ym,Yn,ial,Yo,Yp,Yq,Yr,Ys,Yt,Yu,Yv,ires,iresL,ires1,Yw,Yx,Yy,Yz,YA,YB,bin2,YC,YD,YE,YF,YG,YH,YI,YJ,YK,YL,YM,YN,YO,YP,YQ,YR,un1,shOk,eqL,eq1,fillL,putAt,IHeap.load1,IHeap.loadL,IHeap.storeL,YS,YT,YU,YV,YW,YX,YY,YZ,B0,B1,B2,B3,B4,B5,B6,B7,B8,B9,Ba,Bb,Bc,Bd,Be,Bf,Bg,Bh,Bi,Bj,Bk,Bl,Bm, y1, gA, gA', fillL, putAt]
      refine call_of (At_ok c hR (w2.le kA) (by omega) ?_)
      by_cases y2 : 0 ≤ atI m.S s
      · rw [if_pos (.inr (.inl y2))] at hK
        simp -implicitDefEqProofs [J0,J1,J2,J3,J4,J5,J6,J7,J8,J9,Ja,Jb,Jc,Jd,Je,Jf,Jg,Jh,Ji,Jj,Jk,Jl,Jm,Jn,Jo,Jp,Jq,Jr,Js,Jt,Ju,Jv,Jw,Jx,Jy,Jz,JA,JB,JC,JD,JE,JF,JG,JH,JI,JJ,JK,JL,JM,JN,JO,JP,stillI,IOp.kind,JQ,JR,JS,JT,JU,JV,JW,JX,JY,JZ,Y0,Y1,Y2,Y3,Y4,Y5,Y6,Y7,Y8,Y9,Ya,Yb,Yc,Yd,Ye,Yf,Yg,Yh,Yi,Yj,Yk,Yl,Ym,Yn,ial,Yo,Yp,Yq,Yr,Ys,Yt,Yu,Yv,ires,iresL,ires1,Yw,Yx,Yy,Yz,YA,YB,bin2,YC,YD,YE,YF,YG,YH,YI,YJ,YK,YL,YM,YN,YO,YP,YQ,YR,un1,shOk,eqL,eq1,fillL,putAt,IHeap.load1,IHeap.loadL,IHeap.storeL,YS,YT,YU,YV,YW,YX,YY,YZ,B0,B1,B2,B3,B4,B5,B6,B7,B8,B9,Ba,Bb,Bc,Bd,Be,Bf,Bg,Bh,Bi,Bj,Bk,Bl,Bm, y2, gA, gA']
        exact hK _ _ (kA.set (by omega) _) (hm.le (kA.set (by omega) _))
      · by_cases y3 : s = m.g
        · rw [if_pos (.inr (.inr y3))] at hK
          simp -implicitDefEqProofs [J0,J1,J2,J3,J4,J5,J6,J7,J8,J9,Ja,Jb,Jc,Jd,Je,Jf,Jg,Jh,Ji,Jj,Jk,Jl,Jm,Jn,Jo,Jp,Jq,Jr,Js,Jt,Ju,Jv,Jw,Jx,Jy,Jz,JA,JB,JC,JD,JE,JF,JG,JH,JI,JJ,JK,JL,JM,JN,JO,JP,stillI,IOp.kind,JQ,JR,JS,JT,JU,JV,JW,JX,JY,JZ,Y0,Y1,Y2,Y3,Y4,Y5,Y6,Y7,Y8,Y9,Ya,Yb,Yc,Yd,Ye,Yf,Yg,Yh,Yi,Yj,Yk,Yl,Ym,Yn,ial,Yo,Yp,Yq,Yr,Ys,Yt,Yu,Yv,ires,iresL,ires1,Yw,Yx,Yy,Yz,YA,YB,bin2,YC,YD,YE,YF,YG,YH,YI,YJ,YK,YL,YM,YN,YO,YP,YQ,YR,un1,shOk,eqL,eq1,fillL,putAt,IHeap.load1,IHeap.loadL,IHeap.storeL,YS,YT,YU,YV,YW,YX,YY,YZ,B0,B1,B2,B3,B4,B5,B6,B7,B8,B9,Ba,Bb,Bc,Bd,Be,Bf,Bg,Bh,Bi,Bj,Bk,Bl,Bm, y2, gA, gA']
          simp -implicitDefEqProofs [J0,J1,J2,J3,J4,J5,J6,J7,J8,J9,Ja,Jb,Jc,Jd,Je,Jf,Jg,Jh,Ji,Jj,Jk,Jl,Jm,Jn,Jo,Jp,Jq,Jr,Js,Jt,Ju,Jv,Jw,Jx,Jy,Jz,JA,JB,JC,JD,JE,JF,JG,JH,JI,JJ,JK,JL,JM,JN,JO,JP,stillI,IOp.kind,JQ,JR,JS,JT,JU,JV,JW,JX,JY,JZ,Y0,Y1,Y2,Y3,Y4,Y5,Y6,Y7,Y8,Y9,Ya,Yb,Yc,Yd,Ye,Yf,Yg,Yh,Yi,Yj,Yk,Yl,Ym,Yn,ial,Yo,Yp,Yq,Yr,Ys,Yt,Yu,Yv,ires,iresL,ires1,Yw,Yx,Yy,Yz,YA,YB,bin2,YC,YD,YE,YF,YG,YH,YI,YJ,YK,YL,YM,YN,YO,YP,YQ,YR,un1,shOk,eqL,eq1,fillL,putAt,IHeap.load1,IHeap.loadL,IHeap.storeL,YS,YT,YU,YV,YW,YX,YY,YZ,B0,B1,B2,B3,B4,B5,B6,B7,B8,B9,Ba,Bb,Bc,Bd,Be,Bf,Bg,Bh,Bi,Bj,Bk,Bl,Bm, y2, gA, gA', y3]
          exact hK _ _ (kA.set (by omega) _) (hm.le (kA.set (by omega) _))
        · rw [if_neg (fun hx => hx.elim y1 fun hx => hx.elim y2 y3)] at hK
          obtain ⟨f3, v3, H3, e3, gr3, k3⟩ := app_ok (l := m.S) (old := []) (B := HA.next) (w2.le kA) (Grow.nil _ _ _) (Nat.le_refl _) (by omega) (by simp)
          have n3 := k3.next
          have k3l := k3.le (Nat.le_refl _)
          have k3a : H3.le (H3.alloc (.cells [.int .i64 s] false)) := H3.le_alloc _
          obtain ⟨f4, v4, H4, e4, gr4, k4⟩ := app_ok (H := H3.alloc (.cells [.int .i64 s] false)) (l := [s]) (old := m.S) (B := HA.next) (one_of (b := H3.next) (Nat.lt_succ_self _) (by rw [YS, if_pos rfl])) (gr3.le k3a) (Nat.le_succ_of_le n3) (by simp) (by omega)
          have k4' : IHeap.keep HA.next H3 H4 := (k3a.keep (by omega)).trans k4
          have k4l : HA.le H4 := ((k3.trans k4').le (Nat.le_refl _))
          have n4 := k4l.next
          have gr3' := gr3
          obtain ⟨a3, c3, rfl⟩ := gr3.len
          have gr4' := gr4
          obtain ⟨a4, c4, rfl⟩ := gr4.len
          simp only [List.nil_append, List.length_map] at e3 e4 gr4'
          have g4 : H4.get H.next = _ := (k4l.get H.next (by omega)).trans gA
          have g4' : H4.get (H.next + 1) = _ := (k4l.get (H.next + 1) (by omega)).trans gA'
          have e4' := e4
          simp only [List.length_singleton, List.map_singleton, iV] at e4' f4
          simp -implicitDefEqProofs [J0,J1,J2,J3,J4,J5,J6,J7,J8,J9,Ja,Jb,Jc,Jd,Je,Jf,Jg,Jh,Ji,Jj,Jk,Jl,Jm,Jn,Jo,Jp,Jq,Jr,Js,Jt,Ju,Jv,Jw,Jx,Jy,Jz,JA,JB,JC,JD,JE,JF,JG,JH,JI,JJ,JK,JL,JM,JN,JO,JP,stillI,IOp.kind,JQ,JR,JS,JT,JU,JV,JW,JX,JY,JZ,Y0,Y1,Y2,Y3,Y4,Y5,Y6,Y7,Y8,Y9,Ya,Yb,Yc,Yd,Ye,Yf,Yg,Yh,Yi,Yj,Yk,Yl,Ym,Yn,ial,Yo,Yp,Yq,Yr,Ys,Yt,Yu,Yv,ires,iresL,ires1,Yw,Yx,Yy,Yz,YA,YB,bin2,YC,YD,YE,YF,YG,YH,YI,YJ,YK,YL,YM,YN,YO,YP,YQ,YR,un1,shOk,eqL,eq1,fillL,putAt,IHeap.load1,IHeap.loadL,IHeap.storeL,YS,YT,YU,YV,YW,YX,YY,YZ,B0,B1,B2,B3,B4,B5,B6,B7,B8,B9,Ba,Bb,Bc,Bd,Be,Bf,Bg,Bh,Bi,Bj,Bk,Bl,Bm, y2, gA, y3, lenOfI, f3, e3, f4, e4', g4, g4', iV, List.map_singleton, List.length_singleton]
          have up : ∀ x1 x4, IHeap.upd [H.next, H.next + 1] H4 ((H4.set H.next x1).set (H.next + 1) x4) := fun x1 x4 =>
            ((IHeap.upd_refl _ _).set (.inr (by simp)) _).set (.inr (by simp)) _
          have hin : ∀ b ∈ [H.next, H.next + 1], b < HA.next := fun b hb => by simp only [List.mem_cons, List.not_mem_nil, or_false] at hb; omega
          have lez : ∀ x1 x4, H.le ((H4.set H.next x1).set (H.next + 1) x4) := fun x1 x4 => ((kA.trans k4l).set (Nat.le_refl _) _).set (by omega) _
          have hlen : (m.S ++ [s]).length = m.S.length + 1 := by simp
          rw [hlen] at gr4'
          exact hK _ _ (lez _ _) ⟨_, _, rfl, w1.le (lez _ _), gr4'.slw.upd (Grow.off gr4' hin) (up _ _), o1.le (lez _ _).next, Grow.far gr4' (by simp only [YV]; exact Nat.le_refl _) fun b hb => by have := hSl b hb; omega⟩

end
end Go.Proofs.YtkphglpmhebglaaI
