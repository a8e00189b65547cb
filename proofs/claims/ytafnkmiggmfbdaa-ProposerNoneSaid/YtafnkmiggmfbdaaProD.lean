/- Who proposes: counting votes. -/
import Derived.Test.YtafnkmiggmfbdaaProC
namespace Go.Proofs.YtafnkmiggmfbdaaI
set_option linter.unusedSimpArgs false
set_option linter.unusedVariables false
open Go

theorem IsP.getNext {B : Nat → Prop} {H : IHeap} {p : Nat} {P : Pro} (h : IsP B H p P) (hd : P.does ≠ 0) : ∃ r, H.get p = some (.cells (cellsP P (.map (some r))) false) ∧ B r ∧ IsMap H r kI vV P.best ∧ p ≠ r := by
  obtain ⟨_, _, mv, g, hm⟩ := h
  rcases hm with ⟨_, _, h0⟩ | ⟨r, rfl, hr, hm⟩
  · exact absurd h0 hd
  · exact ⟨r, g, hr, hm, hm.ne_cells g⟩

section
variable (c : Ctx) (hA : HasBalA c) (hB : HasBalB c) (hD : HasBalD c) (hc : HasProp c) (hT : ProT c) {H : IHeap} {K : Value → IHeap → Prop} {B : Nat → Prop} {p : Nat} {P : Pro}

include hA hc hT in
theorem Pcount_ok {v : VoteD} (h : IsP B H p P) (hd : P.does ≠ 0) (hfr : 0 ≤ P.fr) (hK : ∀ H', Fr B H H' → IsP B H' p (P.count v) → K (.tuple #[]) H') :
    c.C (c.F n_proposer_Proposer_count) [.pointer (some ⟨p, 0, none⟩), vV v] H K := by
  refine c.enter hc.proposer_Proposer_count rfl ?_
  obtain ⟨r, g, hr, hm, hne⟩ := h.getNext hd
  have hp := h.lt p h.own
  have hrl := h.lt r hr
  have e1 : ¬ p = H.next := by omega
  obtain ⟨H0, hH0⟩ : ∃ X : IHeap, X = H.alloc (.cells (rowV v) false) := ⟨_, rfl⟩
  have k0 : H.le H0 := by rw [hH0]; exact H.le_alloc _
  have n0 : H0.next = H.next + 1 := by rw [hH0]; rfl
  have b0 : H0.get H.next = some (.cells [.int .i64 v.slot, .int .i64 v.a, .int .i64 v.n, .string v.val] false) := by rw [hH0, YV, if_pos rfl]; rfl
  have g0 := (k0.get p hp).trans g
  have hH0' : H.alloc (.cells [.int .i64 v.slot, .int .i64 v.a, .int .i64 v.n, .string v.val] false) = H0 := by rw [hH0]; rfl
  have hl : v.val.data.toList.length = v.val.size := rfl
  have bad : ∀ HX, H.le HX → P.takes v = false → K (.tuple #[]) HX := by
    intro HX kX ht
    have : P.count v = P := by unfold Pro.count; rw [ht]; rfl
    rw [this] at hK
    exact hK HX (kX.fr B) (h.le kX)
  by_cases h1 : v.slot < P.fr
  · simp -implicitDefEqProofs [J0,J1,J2,J3,J4,J5,J6,J7,J8,J9,Ja,Jb,Jc,Jd,Je,Jf,Jg,Jh,Ji,Jj,Jk,Jl,Jm,Jn,Jo,Jp,Jq,Jr,Js,Jt,Ju,Jv,Jw,Jx,Jy,Jz,JA,JB,JC,JD,JE,JF,JG,JH,JI,JJ,JK,JL,JM,JN,JO,JP,JQ,JR,JS,stillI,IOp.kind,JT,JU,JV,JW,JX,JY,JZ,Y0,Y1,Y2,Y3,Y4,Y5,Y6,Y7,Y8,Y9,Ya,Yb,Yc,Yd,Ye,Yf,Yg,Yh,Yi,Yj,Yk,Yl,Ym,Yn,Yo,Yp,Yq,ial,Yr,Ys,Yt,Yu,Yv,Yw,Yx,Yy,ires,iresL,ires1,Yz,YA,YB,YC,YD,YE,bin2,YF,YG,YH,YI,YJ,YK,YL,YM,YN,YO,YP,YQ,YR,YS,YT,YU,un1,shOk,eqL,eq1,fillL,putAt,IHeap.load1,IHeap.loadL,IHeap.storeL,YV,YW,YX,YY,YZ,B0,B1,B2,B3,B4,B5,B6,B7,B8,B9,Ba,Bb,Bc,Bd,Be,Bf,Bg,Bh,Bi,Bj,Bk,Bl,Bm,Bn,Bo,Bp, c_proposer_Proposer_count, vV, hH0', b0, g0, cP0, cP1, cP2, cP4, cP5, cP6, cP7, cP15, cQ0, cQ1, cQ4, cQ5, cQ6, cQ7, cQ15, cPlen, tP2, tP4, tP6, tP7, h1]
    exact bad H0 k0 (by unfold Pro.takes; rw [decide_eq_false (by omega)]; rfl)
  · by_cases h2 : 1024 ≤ v.slot
    · simp -implicitDefEqProofs [J0,J1,J2,J3,J4,J5,J6,J7,J8,J9,Ja,Jb,Jc,Jd,Je,Jf,Jg,Jh,Ji,Jj,Jk,Jl,Jm,Jn,Jo,Jp,Jq,Jr,Js,Jt,Ju,Jv,Jw,Jx,Jy,Jz,JA,JB,JC,JD,JE,JF,JG,JH,JI,JJ,JK,JL,JM,JN,JO,JP,JQ,JR,JS,stillI,IOp.kind,JT,JU,JV,JW,JX,JY,JZ,Y0,Y1,Y2,Y3,Y4,Y5,Y6,Y7,Y8,Y9,Ya,Yb,Yc,Yd,Ye,Yf,Yg,Yh,Yi,Yj,Yk,Yl,Ym,Yn,Yo,Yp,Yq,ial,Yr,Ys,Yt,Yu,Yv,Yw,Yx,Yy,ires,iresL,ires1,Yz,YA,YB,YC,YD,YE,bin2,YF,YG,YH,YI,YJ,YK,YL,YM,YN,YO,YP,YQ,YR,YS,YT,YU,un1,shOk,eqL,eq1,fillL,putAt,IHeap.load1,IHeap.loadL,IHeap.storeL,YV,YW,YX,YY,YZ,B0,B1,B2,B3,B4,B5,B6,B7,B8,B9,Ba,Bb,Bc,Bd,Be,Bf,Bg,Bh,Bi,Bj,Bk,Bl,Bm,Bn,Bo,Bp, c_proposer_Proposer_count, vV, hH0', b0, g0, cP0, cP1, cP2, cP4, cP5, cP6, cP7, cP15, cQ0, cQ1, cQ4, cQ5, cQ6, cQ7, cQ15, cPlen, tP2, tP4, tP6, tP7, h1, h2]
      exact bad H0 k0 (by unfold Pro.takes; rw [decide_eq_false (p := v.slot < 1024) (by omega)]; simp)
    · simp -implicitDefEqProofs [J0,J1,J2,J3,J4,J5,J6,J7,J8,J9,Ja,Jb,Jc,Jd,Je,Jf,Jg,Jh,Ji,Jj,Jk,Jl,Jm,Jn,Jo,Jp,Jq,Jr,Js,Jt,Ju,Jv,Jw,Jx,Jy,Jz,JA,JB,JC,JD,JE,JF,JG,JH,JI,JJ,JK,JL,JM,JN,JO,JP,JQ,JR,JS,stillI,IOp.kind,JT,JU,JV,JW,JX,JY,JZ,Y0,Y1,Y2,Y3,Y4,Y5,Y6,Y7,Y8,Y9,Ya,Yb,Yc,Yd,Ye,Yf,Yg,Yh,Yi,Yj,Yk,Yl,Ym,Yn,Yo,Yp,Yq,ial,Yr,Ys,Yt,Yu,Yv,Yw,Yx,Yy,ires,iresL,ires1,Yz,YA,YB,YC,YD,YE,bin2,YF,YG,YH,YI,YJ,YK,YL,YM,YN,YO,YP,YQ,YR,YS,YT,YU,un1,shOk,eqL,eq1,fillL,putAt,IHeap.load1,IHeap.loadL,IHeap.storeL,YV,YW,YX,YY,YZ,B0,B1,B2,B3,B4,B5,B6,B7,B8,B9,Ba,Bb,Bc,Bd,Be,Bf,Bg,Bh,Bi,Bj,Bk,Bl,Bm,Bn,Bo,Bp, c_proposer_Proposer_count, vV, hH0', b0, g0, cP0, cP1, cP2, cP4, cP5, cP6, cP7, cP15, cQ0, cQ1, cQ4, cQ5, cQ6, cQ7, cQ15, cPlen, tP2, tP4, tP6, tP7, h1, h2]
      refine dcall_of c.mono (Valid_ok c hA fun H1 k1 => ?_)
      have n1 := k1.next
      have b1 := (k1.get H.next (by omega)).trans b0
      have k01 := k0.trans k1
      have g1 := (k01.get p hp).trans g
      by_cases h3 : validB v.a v.n = true
      · by_cases h4 : 4096 < v.val.size
        · have h4' : (4096 : Int) < (v.val.size : Int) := by omega
          simp -implicitDefEqProofs [J0,J1,J2,J3,J4,J5,J6,J7,J8,J9,Ja,Jb,Jc,Jd,Je,Jf,Jg,Jh,Ji,Jj,Jk,Jl,Jm,Jn,Jo,Jp,Jq,Jr,Js,Jt,Ju,Jv,Jw,Jx,Jy,Jz,JA,JB,JC,JD,JE,JF,JG,JH,JI,JJ,JK,JL,JM,JN,JO,JP,JQ,JR,JS,stillI,IOp.kind,JT,JU,JV,JW,JX,JY,JZ,Y0,Y1,Y2,Y3,Y4,Y5,Y6,Y7,Y8,Y9,Ya,Yb,Yc,Yd,Ye,Yf,Yg,Yh,Yi,Yj,Yk,Yl,Ym,Yn,Yo,Yp,Yq,ial,Yr,Ys,Yt,Yu,Yv,Yw,Yx,Yy,ires,iresL,ires1,Yz,YA,YB,YC,YD,YE,bin2,YF,YG,YH,YI,YJ,YK,YL,YM,YN,YO,YP,YQ,YR,YS,YT,YU,un1,shOk,eqL,eq1,fillL,putAt,IHeap.load1,IHeap.loadL,IHeap.storeL,YV,YW,YX,YY,YZ,B0,B1,B2,B3,B4,B5,B6,B7,B8,B9,Ba,Bb,Bc,Bd,Be,Bf,Bg,Bh,Bi,Bj,Bk,Bl,Bm,Bn,Bo,Bp, b1, hl, h3, h4, h4']
          exact bad H1 k01 (by unfold Pro.takes; rw [h3, decide_eq_false (p := v.val.size ≤ 4096) (by omega)]; simp)
        · have h4' : ¬ (4096 : Int) < (v.val.size : Int) := by omega
          have ht : P.takes v = true := by unfold Pro.takes; simp only [h3, Bool.true_and, Bool.and_eq_true, decide_eq_true_eq]; omega
          have w1 : IntKind.i64.wrap (v.slot + 1) = v.slot + 1 := wrap64 (by omega) (by omega)
          obtain ⟨nx, hnx⟩ : ∃ nx, nx = (if v.slot + 1 > P.next then v.slot + 1 else P.next) := ⟨_, rfl⟩
          have hcount : P.count v = if better (P.best v.slot) v then (P.setNext nx).setBest v else P.setNext nx := by unfold Pro.count; rw [ht, if_pos rfl, hnx]
          rw [hcount] at hK
          obtain ⟨H2, hH2⟩ : ∃ X : IHeap, X = H1.set p (.cells (cellsP (P.setNext nx) (.map (some r))) false) := ⟨_, rfl⟩
          have k2 : Fr B H H2 := by rw [hH2]; exact (k01.fr B).set (.inl h.own) _
          have n2 : H2.next = H1.next := by rw [hH2]; rfl
          have g2 : H2.get p = some (.cells (cellsP (P.setNext nx) (.map (some r))) false) := by rw [hH2, YW, if_pos rfl]
          have m2 : IsMap H2 r kI vV P.best := hm.same k2.next (by rw [hH2, YW, if_neg (fun e => hne e.symm), k01.get r hrl])
          have b2 : H2.get H.next = some (.cells [.int .i64 v.slot, .int .i64 v.a, .int .i64 v.n, .string v.val] false) := by rw [hH2, YW, if_neg (fun e => e1 e.symm)]; exact b1
          have lk := m2.look (P := c.P) (keyOf_int hT.key) v.slot (.agg #[.int .i64 0, .int .i64 0, .int .i64 0, .string ⟨#[]⟩]) true
          simp only [kI] at lk
          have fin : ∀ HX (HY : IHeap), Fr B H HX → HX.get p = some (.cells (cellsP (P.setNext nx) (.map (some r))) false) → IsMap HX r kI vV P.best → HX.get H.next = some (.cells [.int .i64 v.slot, .int .i64 v.a, .int .i64 v.n, .string v.val] false) →
              better (P.best v.slot) v = true → ∃ o, putR c.P HX (c.Ty 2) (.map (some r)) (.int .i64 v.slot) (.agg #[.int .i64 v.slot, .int .i64 v.a, .int .i64 v.n, .string v.val]) = some (undef, HX.set r o) ∧ K (.tuple #[]) (HX.set r o) := by
            intro HX _ fX gX mX bX hbt
            obtain ⟨o, e1, e2⟩ := mX.put (P := c.P) (keyOf_int hT.key) v.slot v
            refine ⟨o, e1, ?_⟩
            rw [hbt, if_pos rfl] at hK
            refine hK _ (fX.set (.inl hr) _) ⟨fun b hb => Nat.lt_of_lt_of_le (h.lt b hb) fX.next, h.own, .map (some r), ?_, .inr ⟨r, rfl, hr, ?_⟩⟩
            · rw [YW, if_neg hne]; exact gX
            · exact e2
          have keep : ∀ HX, Fr B H HX → HX.get p = some (.cells (cellsP (P.setNext nx) (.map (some r))) false) → IsMap HX r kI vV P.best → better (P.best v.slot) v = false → K (.tuple #[]) HX := by
            intro HX fX gX mX hbt
            rw [hbt, if_neg (by simp)] at hK
            exact hK _ fX ⟨fun b hb => Nat.lt_of_lt_of_le (h.lt b hb) fX.next, h.own, .map (some r), gX, .inr ⟨r, rfl, hr, mX⟩⟩
          have ep2 : ¬ p = H2.next := by have := k2.next; omega
          have eb2 : ¬ H.next = H2.next := by have := k2.next; omega
          have er2 : ¬ r = H2.next := by have := k2.next; omega
          cases hq : P.best v.slot with
          | none =>
            rw [hq] at lk
            have hbt : better (P.best v.slot) v = true := by rw [hq]; rfl
            obtain ⟨H3, hH3⟩ : ∃ X : IHeap, X = (H2.alloc (.cells [.int .i64 0, .int .i64 0, .int .i64 0, .string ⟨#[]⟩] false)).set H2.next (.cells [.int .i64 0, .int .i64 0, .int .i64 0, .string ⟨#[]⟩] false) := ⟨_, rfl⟩
            have k3 : H2.le H3 := by rw [hH3]; exact (H2.le_alloc _).set (Nat.le_refl _) _
            have g3 := (k3.get p (by omega)).trans g2
            have b3 := (k3.get H.next (by omega)).trans b2
            obtain ⟨o, q1, q2⟩ := fin H3 H3 (k2.trans_le k3) g3 (m2.le k3) b3 hbt
            simp -implicitDefEqProofs [J0,J1,J2,J3,J4,J5,J6,J7,J8,J9,Ja,Jb,Jc,Jd,Je,Jf,Jg,Jh,Ji,Jj,Jk,Jl,Jm,Jn,Jo,Jp,Jq,Jr,Js,Jt,Ju,Jv,Jw,Jx,Jy,Jz,JA,JB,JC,JD,JE,JF,JG,JH,JI,JJ,JK,JL,JM,JN,JO,JP,JQ,JR,JS,stillI,IOp.kind,JT,JU,JV,JW,JX,JY,JZ,Y0,Y1,Y2,Y3,Y4,Y5,Y6,Y7,Y8,Y9,Ya,Yb,Yc,Yd,Ye,Yf,Yg,Yh,Yi,Yj,Yk,Yl,Ym,Yn,Yo,Yp,Yq,ial,Yr,Ys,Yt,Yu,Yv,Yw,Yx,Yy,ires,iresL,ires1,Yz,YA,YB,YC,YD,YE,bin2,YF,YG,YH,YI,YJ,YK,YL,YM,YN,YO,YP,YQ,YR,YS,YT,YU,un1,shOk,eqL,eq1,fillL,putAt,IHeap.load1,IHeap.loadL,IHeap.storeL,YV,YW,YX,YY,YZ,B0,B1,B2,B3,B4,B5,B6,B7,B8,B9,Ba,Bb,Bc,Bd,Be,Bf,Bg,Bh,Bi,Bj,Bk,Bl,Bm,Bn,Bo,Bp, b1, hl, h3, h4, h4', g1, cP0, cP1, cP2, cP4, cP5, cP6, cP7, cP15, cQ0, cQ1, cQ4, cQ5, cQ6, cQ7, cQ15, cPlen, tP2, tP4, tP6, tP7, w1, ← hnx, ← hH2, g2, b2, lk, ← hH3, g3, b3, q1]
            exact q2
          | some w =>
            rw [hq] at lk
            obtain ⟨H3, hH3⟩ : ∃ X : IHeap, X = (H2.alloc (.cells [.int .i64 0, .int .i64 0, .int .i64 0, .string ⟨#[]⟩] false)).set H2.next (.cells [.int .i64 w.slot, .int .i64 w.a, .int .i64 w.n, .string w.val] false) := ⟨_, rfl⟩
            have k3 : H2.le H3 := by rw [hH3]; exact (H2.le_alloc _).set (Nat.le_refl _) _
            have n3 : H3.next = H2.next + 1 := by rw [hH3]; rfl
            have b3 := (k3.get H.next (by omega)).trans b2
            have w3 : H3.get H2.next = some (.cells [.int .i64 w.slot, .int .i64 w.a, .int .i64 w.n, .string w.val] false) := by rw [hH3, YW, if_pos rfl]
            simp -implicitDefEqProofs [J0,J1,J2,J3,J4,J5,J6,J7,J8,J9,Ja,Jb,Jc,Jd,Je,Jf,Jg,Jh,Ji,Jj,Jk,Jl,Jm,Jn,Jo,Jp,Jq,Jr,Js,Jt,Ju,Jv,Jw,Jx,Jy,Jz,JA,JB,JC,JD,JE,JF,JG,JH,JI,JJ,JK,JL,JM,JN,JO,JP,JQ,JR,JS,stillI,IOp.kind,JT,JU,JV,JW,JX,JY,JZ,Y0,Y1,Y2,Y3,Y4,Y5,Y6,Y7,Y8,Y9,Ya,Yb,Yc,Yd,Ye,Yf,Yg,Yh,Yi,Yj,Yk,Yl,Ym,Yn,Yo,Yp,Yq,ial,Yr,Ys,Yt,Yu,Yv,Yw,Yx,Yy,ires,iresL,ires1,Yz,YA,YB,YC,YD,YE,bin2,YF,YG,YH,YI,YJ,YK,YL,YM,YN,YO,YP,YQ,YR,YS,YT,YU,un1,shOk,eqL,eq1,fillL,putAt,IHeap.load1,IHeap.loadL,IHeap.storeL,YV,YW,YX,YY,YZ,B0,B1,B2,B3,B4,B5,B6,B7,B8,B9,Ba,Bb,Bc,Bd,Be,Bf,Bg,Bh,Bi,Bj,Bk,Bl,Bm,Bn,Bo,Bp, b1, hl, h3, h4, h4', g1, cP0, cP1, cP2, cP4, cP5, cP6, cP7, cP15, cQ0, cQ1, cQ4, cQ5, cQ6, cQ7, cQ15, cPlen, tP2, tP4, tP6, tP7, w1, ← hnx, ← hH2, g2, b2, lk, vV, ← hH3, b3, w3]
            refine call_of (Cmp_ok c hA fun H4 k4 => ?_)
            have k34 := k3.trans k4
            have g4 := (k34.get p (by omega)).trans g2
            have b4 := (k34.get H.next (by omega)).trans b2
            by_cases hcm : 0 < cmpB v.a v.n w.a w.n
            · have hbt : better (P.best v.slot) v = true := by rw [hq]; exact decide_eq_true hcm
              obtain ⟨o, q1, q2⟩ := fin H4 H4 (k2.trans_le k34) g4 (m2.le k34) b4 hbt
              simp -implicitDefEqProofs [J0,J1,J2,J3,J4,J5,J6,J7,J8,J9,Ja,Jb,Jc,Jd,Je,Jf,Jg,Jh,Ji,Jj,Jk,Jl,Jm,Jn,Jo,Jp,Jq,Jr,Js,Jt,Ju,Jv,Jw,Jx,Jy,Jz,JA,JB,JC,JD,JE,JF,JG,JH,JI,JJ,JK,JL,JM,JN,JO,JP,JQ,JR,JS,stillI,IOp.kind,JT,JU,JV,JW,JX,JY,JZ,Y0,Y1,Y2,Y3,Y4,Y5,Y6,Y7,Y8,Y9,Ya,Yb,Yc,Yd,Ye,Yf,Yg,Yh,Yi,Yj,Yk,Yl,Ym,Yn,Yo,Yp,Yq,ial,Yr,Ys,Yt,Yu,Yv,Yw,Yx,Yy,ires,iresL,ires1,Yz,YA,YB,YC,YD,YE,bin2,YF,YG,YH,YI,YJ,YK,YL,YM,YN,YO,YP,YQ,YR,YS,YT,YU,un1,shOk,eqL,eq1,fillL,putAt,IHeap.load1,IHeap.loadL,IHeap.storeL,YV,YW,YX,YY,YZ,B0,B1,B2,B3,B4,B5,B6,B7,B8,B9,Ba,Bb,Bc,Bd,Be,Bf,Bg,Bh,Bi,Bj,Bk,Bl,Bm,Bn,Bo,Bp, hcm, g4, b4, cP0, cP1, cP2, cP4, cP5, cP6, cP7, cP15, cQ0, cQ1, cQ4, cQ5, cQ6, cQ7, cQ15, cPlen, tP2, tP4, tP6, tP7, q1]
              exact q2
            · have hbt : better (P.best v.slot) v = false := by rw [hq]; exact decide_eq_false hcm
              simp -implicitDefEqProofs [J0,J1,J2,J3,J4,J5,J6,J7,J8,J9,Ja,Jb,Jc,Jd,Je,Jf,Jg,Jh,Ji,Jj,Jk,Jl,Jm,Jn,Jo,Jp,Jq,Jr,Js,Jt,Ju,Jv,Jw,Jx,Jy,Jz,JA,JB,JC,JD,JE,JF,JG,JH,JI,JJ,JK,JL,JM,JN,JO,JP,JQ,JR,JS,stillI,IOp.kind,JT,JU,JV,JW,JX,JY,JZ,Y0,Y1,Y2,Y3,Y4,Y5,Y6,Y7,Y8,Y9,Ya,Yb,Yc,Yd,Ye,Yf,Yg,Yh,Yi,Yj,Yk,Yl,Ym,Yn,Yo,Yp,Yq,ial,Yr,Ys,Yt,Yu,Yv,Yw,Yx,Yy,ires,iresL,ires1,Yz,YA,YB,YC,YD,YE,bin2,YF,YG,YH,YI,YJ,YK,YL,YM,YN,YO,YP,YQ,YR,YS,YT,YU,un1,shOk,eqL,eq1,fillL,putAt,IHeap.load1,IHeap.loadL,IHeap.storeL,YV,YW,YX,YY,YZ,B0,B1,B2,B3,B4,B5,B6,B7,B8,B9,Ba,Bb,Bc,Bd,Be,Bf,Bg,Bh,Bi,Bj,Bk,Bl,Bm,Bn,Bo,Bp, hcm]
              exact keep H4 (k2.trans_le k34) g4 (m2.le k34) hbt
      · simp -implicitDefEqProofs [J0,J1,J2,J3,J4,J5,J6,J7,J8,J9,Ja,Jb,Jc,Jd,Je,Jf,Jg,Jh,Ji,Jj,Jk,Jl,Jm,Jn,Jo,Jp,Jq,Jr,Js,Jt,Ju,Jv,Jw,Jx,Jy,Jz,JA,JB,JC,JD,JE,JF,JG,JH,JI,JJ,JK,JL,JM,JN,JO,JP,JQ,JR,JS,stillI,IOp.kind,JT,JU,JV,JW,JX,JY,JZ,Y0,Y1,Y2,Y3,Y4,Y5,Y6,Y7,Y8,Y9,Ya,Yb,Yc,Yd,Ye,Yf,Yg,Yh,Yi,Yj,Yk,Yl,Ym,Yn,Yo,Yp,Yq,ial,Yr,Ys,Yt,Yu,Yv,Yw,Yx,Yy,ires,iresL,ires1,Yz,YA,YB,YC,YD,YE,bin2,YF,YG,YH,YI,YJ,YK,YL,YM,YN,YO,YP,YQ,YR,YS,YT,YU,un1,shOk,eqL,eq1,fillL,putAt,IHeap.load1,IHeap.loadL,IHeap.storeL,YV,YW,YX,YY,YZ,B0,B1,B2,B3,B4,B5,B6,B7,B8,B9,Ba,Bb,Bc,Bd,Be,Bf,Bg,Bh,Bi,Bj,Bk,Bl,Bm,Bn,Bo,Bp, b1, hl, h3]
        exact bad H1 k01 (by unfold Pro.takes; simp [h3])
end
end Go.Proofs.YtafnkmiggmfbdaaI
