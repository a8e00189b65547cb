/- Who accepts: the document's answer, a vote. -/
import Derived.Test.YtkgfnelapcpibaaRefW17
namespace Go.Proofs.YtkgfnelapcpibaaI
set_option linter.unusedSimpArgs false
set_option linter.unusedVariables false
open Go

section
variable (c : Ctx) (hR : HasRef17 c) (hB : HasBalC c) {H : IHeap} {K : Value → IHeap → Prop}

include hR hB in
theorem RAccept_ok17 {A : Acc} {u : Value} {v : VoteD} (hs : Sorted A.L) (hu : SlW H 4 u (A.L.map rowV)) (hl : A.L.length ≤ 50000)
    (hK : ∀ u' H', H.le H' → SlW H' 4 u' ((A.accept v).1.L.map rowV) → (u' = u ∨ Blk H.next H'.next u') → K (.tuple #[aV (A.accept v).1.pa (A.accept v).1.pn (A.accept v).1.base u', .bool (A.accept v).2]) H') :
    c.C (c.F n_hurdleref17_Accept) [aV A.pa A.pn A.base u, vV v] H K := by
  refine c.enter hR.hurdleref17_Accept rfl ?_
  have hu2 := hu
  obtain ⟨au, cu, rfl⟩ := hu.len
  rw [List.length_map] at hu2 hK ⊢
  unfold Acc.accept at hK
  obtain ⟨HA, hHA⟩ : ∃ X : IHeap, X = ((H.alloc (.cells [.int .i64 A.pa, .int .i64 A.pn, .int .i64 A.base, .slice au A.L.length cu] false)).alloc (.cells [.int .i64 v.slot, .int .i64 v.a, .int .i64 v.n, .string v.val] false)).alloc (.cells [.int .i64 0, .int .i64 0, .int .i64 0, .slice none 0 0] false) := ⟨_, rfl⟩
  have kA : H.le HA := by rw [hHA]; exact ((H.le_alloc _).alloc _).alloc _
  have nA : HA.next = H.next + 1 + 1 + 1 := by rw [hHA]; rfl
  have g1 : HA.get H.next = some (.cells [.int .i64 A.pa, .int .i64 A.pn, .int .i64 A.base, .slice au A.L.length cu] false) := by rw [hHA, YS, if_neg (by simp only [YU]; omega), YS, if_neg (by simp only [YU]; omega), YS, if_pos rfl]
  have g2 : HA.get (H.next + 1) = some (.cells [.int .i64 v.slot, .int .i64 v.a, .int .i64 v.n, .string v.val] false) := by rw [hHA, YS, if_neg (by simp only [YU]; omega), YS, if_pos (by simp only [YU])]
  have g3 : HA.get (H.next + 1 + 1) = some (.cells [.int .i64 0, .int .i64 0, .int .i64 0, .slice none 0 0] false) := by rw [hHA, YS, if_pos (by simp only [YU])]
  simp -implicitDefEqProofs [J0,J1,J2,J3,J4,J5,J6,J7,J8,J9,Ja,Jb,Jc,Jd,Je,Jf,Jg,Jh,Ji,Jj,Jk,Jl,Jm,Jn,Jo,Jp,Jq,Jr,Js,Jt,Ju,Jv,Jw,Jx,Jy,Jz,JA,JB,JC,JD,JE,JF,JG,JH,JI,JJ,JK,JL,JM,JN,JO,JP,stillI,IOp.kind,JQ,JR,JS,JT,JU,JV,JW,JX,JY,JZ,Y0,Y1,Y2,Y3,Y4,Y5,Y6,Y7,Y8,Y9,Ya,Yb,Yc,Yd,Ye,Yf,Yg,Yh,Yi,Yj,Yk,Yl,Ym,Yn,ial,Yo,Yp,Yq,Yr,Ys,Yt,Yu,Yv,ires,iresL,ires1,Yw,Yx,Yy,Yz,YA,YB,bin2,YC,YD,YE,YF,YG,YH,YI,YJ,YK,YL,YM,YN,YO,YP,YQ,YR,un1,shOk,eqL,eq1,fillL,putAt,IHeap.load1,IHeap.loadL,IHeap.storeL,YS,YT,YU,YV,YW,YX,YY,YZ,B0,B1,B2,B3,B4,B5,B6,B7,B8,B9,Ba,Bb,Bc,Bd,Be,Bf,Bg,Bh,Bi,Bj,Bk,Bl,Bm, c_hurdleref17_Accept, aV, vV, ← hHA, g1, g2]
  refine call_of (Rmay_ok17 c hR hB (A := A) (u := .slice au A.L.length cu) (a := v.a) (n := v.n) fun H1 k1 => ?_)
  have n1 := k1.next
  have g1' := (k1.get H.next (by omega)).trans g1
  have g2' := (k1.get (H.next + 1) (by omega)).trans g2
  have g3' := (k1.get (H.next + 1 + 1) (by omega)).trans g3
  have k01 := kA.trans k1
  have bad : ∀ x, SlW (H1.set (H.next + 1 + 1) x) 4 (.slice au A.L.length cu) (A.L.map rowV) ∧ H.le (H1.set (H.next + 1 + 1) x) := fun x => ⟨hu2.le (k01.set (by omega) _), k01.set (by omega) _⟩
  cases hm : A.may v.a v.n with
  | false =>
    rw [if_pos (.inl hm)] at hK
    simp -implicitDefEqProofs [J0,J1,J2,J3,J4,J5,J6,J7,J8,J9,Ja,Jb,Jc,Jd,Je,Jf,Jg,Jh,Ji,Jj,Jk,Jl,Jm,Jn,Jo,Jp,Jq,Jr,Js,Jt,Ju,Jv,Jw,Jx,Jy,Jz,JA,JB,JC,JD,JE,JF,JG,JH,JI,JJ,JK,JL,JM,JN,JO,JP,stillI,IOp.kind,JQ,JR,JS,JT,JU,JV,JW,JX,JY,JZ,Y0,Y1,Y2,Y3,Y4,Y5,Y6,Y7,Y8,Y9,Ya,Yb,Yc,Yd,Ye,Yf,Yg,Yh,Yi,Yj,Yk,Yl,Ym,Yn,ial,Yo,Yp,Yq,Yr,Ys,Yt,Yu,Yv,ires,iresL,ires1,Yw,Yx,Yy,Yz,YA,YB,bin2,YC,YD,YE,YF,YG,YH,YI,YJ,YK,YL,YM,YN,YO,YP,YQ,YR,un1,shOk,eqL,eq1,fillL,putAt,IHeap.load1,IHeap.loadL,IHeap.storeL,YS,YT,YU,YV,YW,YX,YY,YZ,B0,B1,B2,B3,B4,B5,B6,B7,B8,B9,Ba,Bb,Bc,Bd,Be,Bf,Bg,Bh,Bi,Bj,Bk,Bl,Bm, g1', g2', g3']
    exact hK _ _ (bad _).2 (bad _).1 (.inl rfl)
  | true =>
    by_cases c1 : v.slot < A.base
    · rw [if_pos (.inr (.inl c1))] at hK
      simp -implicitDefEqProofs [J0,J1,J2,J3,J4,J5,J6,J7,J8,J9,Ja,Jb,Jc,Jd,Je,Jf,Jg,Jh,Ji,Jj,Jk,Jl,Jm,Jn,Jo,Jp,Jq,Jr,Js,Jt,Ju,Jv,Jw,Jx,Jy,Jz,JA,JB,JC,JD,JE,JF,JG,JH,JI,JJ,JK,JL,JM,JN,JO,JP,stillI,IOp.kind,JQ,JR,JS,JT,JU,JV,JW,JX,JY,JZ,Y0,Y1,Y2,Y3,Y4,Y5,Y6,Y7,Y8,Y9,Ya,Yb,Yc,Yd,Ye,Yf,Yg,Yh,Yi,Yj,Yk,Yl,Ym,Yn,ial,Yo,Yp,Yq,Yr,Ys,Yt,Yu,Yv,ires,iresL,ires1,Yw,Yx,Yy,Yz,YA,YB,bin2,YC,YD,YE,YF,YG,YH,YI,YJ,YK,YL,YM,YN,YO,YP,YQ,YR,un1,shOk,eqL,eq1,fillL,putAt,IHeap.load1,IHeap.loadL,IHeap.storeL,YS,YT,YU,YV,YW,YX,YY,YZ,B0,B1,B2,B3,B4,B5,B6,B7,B8,B9,Ba,Bb,Bc,Bd,Be,Bf,Bg,Bh,Bi,Bj,Bk,Bl,Bm, g1', g2', g3', c1]
      exact hK _ _ (bad _).2 (bad _).1 (.inl rfl)
    · by_cases c2 : 1024 ≤ v.slot
      · rw [if_pos (.inr (.inr (.inl c2)))] at hK
        simp -implicitDefEqProofs [J0,J1,J2,J3,J4,J5,J6,J7,J8,J9,Ja,Jb,Jc,Jd,Je,Jf,Jg,Jh,Ji,Jj,Jk,Jl,Jm,Jn,Jo,Jp,Jq,Jr,Js,Jt,Ju,Jv,Jw,Jx,Jy,Jz,JA,JB,JC,JD,JE,JF,JG,JH,JI,JJ,JK,JL,JM,JN,JO,JP,stillI,IOp.kind,JQ,JR,JS,JT,JU,JV,JW,JX,JY,JZ,Y0,Y1,Y2,Y3,Y4,Y5,Y6,Y7,Y8,Y9,Ya,Yb,Yc,Yd,Ye,Yf,Yg,Yh,Yi,Yj,Yk,Yl,Ym,Yn,ial,Yo,Yp,Yq,Yr,Ys,Yt,Yu,Yv,ires,iresL,ires1,Yw,Yx,Yy,Yz,YA,YB,bin2,YC,YD,YE,YF,YG,YH,YI,YJ,YK,YL,YM,YN,YO,YP,YQ,YR,un1,shOk,eqL,eq1,fillL,putAt,IHeap.load1,IHeap.loadL,IHeap.storeL,YS,YT,YU,YV,YW,YX,YY,YZ,B0,B1,B2,B3,B4,B5,B6,B7,B8,B9,Ba,Bb,Bc,Bd,Be,Bf,Bg,Bh,Bi,Bj,Bk,Bl,Bm, g1', g2', g3', c1, c2]
        exact hK _ _ (bad _).2 (bad _).1 (.inl rfl)
      · by_cases c3 : (4096 : Int) < v.val.data.toList.length
        · rw [if_pos (.inr (.inr (.inr c3)))] at hK
          have c3' : (4096 : Int) < (v.val.size : Int) := c3
          simp -implicitDefEqProofs [J0,J1,J2,J3,J4,J5,J6,J7,J8,J9,Ja,Jb,Jc,Jd,Je,Jf,Jg,Jh,Ji,Jj,Jk,Jl,Jm,Jn,Jo,Jp,Jq,Jr,Js,Jt,Ju,Jv,Jw,Jx,Jy,Jz,JA,JB,JC,JD,JE,JF,JG,JH,JI,JJ,JK,JL,JM,JN,JO,JP,stillI,IOp.kind,JQ,JR,JS,JT,JU,JV,JW,JX,JY,JZ,Y0,Y1,Y2,Y3,Y4,Y5,Y6,Y7,Y8,Y9,Ya,Yb,Yc,Yd,Ye,Yf,Yg,Yh,Yi,Yj,Yk,Yl,Ym,Yn,ial,Yo,Yp,Yq,Yr,Ys,Yt,Yu,Yv,ires,iresL,ires1,Yw,Yx,Yy,Yz,YA,YB,bin2,YC,YD,YE,YF,YG,YH,YI,YJ,YK,YL,YM,YN,YO,YP,YQ,YR,un1,shOk,eqL,eq1,fillL,putAt,IHeap.load1,IHeap.loadL,IHeap.storeL,YS,YT,YU,YV,YW,YX,YY,YZ,B0,B1,B2,B3,B4,B5,B6,B7,B8,B9,Ba,Bb,Bc,Bd,Be,Bf,Bg,Bh,Bi,Bj,Bk,Bl,Bm, g1', g2', g3', c1, c2, c3']
          exact hK _ _ (bad _).2 (bad _).1 (.inl rfl)
        · rw [if_neg (by rw [hm]; simp only [Bool.true_eq_false, false_or, not_or]; exact ⟨c1, c2, c3⟩)] at hK
          have c3' : ¬ (4096 : Int) < (v.val.size : Int) := c3
          obtain ⟨H2, hH2⟩ : ∃ X : IHeap, X = H1.set H.next (.cells [.int .i64 v.a, .int .i64 v.n, .int .i64 A.base, .slice au A.L.length cu] false) := ⟨_, rfl⟩
          have k2 : H.le H2 := by rw [hH2]; exact k01.set (Nat.le_refl _) _
          have n2 : H2.next = H1.next := by rw [hH2]; rfl
          have g22 : H2.get H.next = some (.cells [.int .i64 v.a, .int .i64 v.n, .int .i64 A.base, .slice au A.L.length cu] false) := by rw [hH2, YT, if_pos rfl]
          have g2v : H2.get (H.next + 1) = some (.cells [.int .i64 v.slot, .int .i64 v.a, .int .i64 v.n, .string v.val] false) := by rw [hH2, YT, if_neg (by omega)]; exact g2'
          have g23 : H2.get (H.next + 1 + 1) = some (.cells [.int .i64 0, .int .i64 0, .int .i64 0, .slice none 0 0] false) := by rw [hH2, YT, if_neg (by omega)]; exact g3'
          simp -implicitDefEqProofs [J0,J1,J2,J3,J4,J5,J6,J7,J8,J9,Ja,Jb,Jc,Jd,Je,Jf,Jg,Jh,Ji,Jj,Jk,Jl,Jm,Jn,Jo,Jp,Jq,Jr,Js,Jt,Ju,Jv,Jw,Jx,Jy,Jz,JA,JB,JC,JD,JE,JF,JG,JH,JI,JJ,JK,JL,JM,JN,JO,JP,stillI,IOp.kind,JQ,JR,JS,JT,JU,JV,JW,JX,JY,JZ,Y0,Y1,Y2,Y3,Y4,Y5,Y6,Y7,Y8,Y9,Ya,Yb,Yc,Yd,Ye,Yf,Yg,Yh,Yi,Yj,Yk,Yl,Ym,Yn,ial,Yo,Yp,Yq,Yr,Ys,Yt,Yu,Yv,ires,iresL,ires1,Yw,Yx,Yy,Yz,YA,YB,bin2,YC,YD,YE,YF,YG,YH,YI,YJ,YK,YL,YM,YN,YO,YP,YQ,YR,un1,shOk,eqL,eq1,fillL,putAt,IHeap.load1,IHeap.loadL,IHeap.storeL,YS,YT,YU,YV,YW,YX,YY,YZ,B0,B1,B2,B3,B4,B5,B6,B7,B8,B9,Ba,Bb,Bc,Bd,Be,Bf,Bg,Bh,Bi,Bj,Bk,Bl,Bm, g1', g2', c1, c2, c3', ← hH2]
          refine loop_nat c.mono (fun k T H' => ∃ i : Nat, i ≤ A.L.length ∧ k = A.L.length - i ∧ T 2 = .pointer (some ⟨H.next, 0, none⟩) ∧ T 3 = .pointer (some ⟨H.next + 1, 0, none⟩) ∧ T 4 = .pointer (some ⟨H.next + 1 + 1, 0, none⟩) ∧ T 7 = .bool (flagV v (A.L.take i)) ∧ T 8 = .int .i64 i ∧ H2.le H' ∧ Grow H' H2.next 4 (T 6) ((accV v (A.L.take i)).map rowV)) A.L.length ?_ ?_
          · refine ⟨0, by omega, rfl, ?_⟩
            simp -implicitDefEqProofs [J0,J1,J2,J3,J4,J5,J6,J7,J8,J9,Ja,Jb,Jc,Jd,Je,Jf,Jg,Jh,Ji,Jj,Jk,Jl,Jm,Jn,Jo,Jp,Jq,Jr,Js,Jt,Ju,Jv,Jw,Jx,Jy,Jz,JA,JB,JC,JD,JE,JF,JG,JH,JI,JJ,JK,JL,JM,JN,JO,JP,stillI,IOp.kind,JQ,JR,JS,JT,JU,JV,JW,JX,JY,JZ,Y0,Y1,Y2,Y3,Y4,Y5,Y6,Y7,Y8,Y9,Ya,Yb,Yc,Yd,Ye,Yf,Yg,Yh,Yi,Yj,Yk,Yl,Ym,Yn,ial,Yo,Yp,Yq,Yr,Ys,Yt,Yu,Yv,ires,iresL,ires1,Yw,Yx,Yy,Yz,YA,YB,bin2,YC,YD,YE,YF,YG,YH,YI,YJ,YK,YL,YM,YN,YO,YP,YQ,YR,un1,shOk,eqL,eq1,fillL,putAt,IHeap.load1,IHeap.loadL,IHeap.storeL,YS,YT,YU,YV,YW,YX,YY,YZ,B0,B1,B2,B3,B4,B5,B6,B7,B8,B9,Ba,Bb,Bc,Bd,Be,Bf,Bg,Bh,Bi,Bj,Bk,Bl,Bm]
            exact ⟨by simp [flagV], IHeap.le_refl _, .inl ⟨by simp [accV, flagV], rfl⟩⟩
          · rintro k T H' ⟨i, hi, rfl, t2, t3, t4, t7, t8, hle, hgr⟩
            have gx := (hle.get H.next (by omega)).trans g22
            have gv := (hle.get (H.next + 1) (by omega)).trans g2v
            have nn := hle.next
            have hal : (accV v (A.L.take i)).length ≤ 50001 := by
              have := accV_len v (A.L.take i)
              rw [List.length_take] at this; omega
            by_cases hil : i < A.L.length
            · have hil' : (i : Int) < (A.L.length : Int) := by omega
              obtain ⟨x, hx⟩ : ∃ x, x = A.L[i] := ⟨_, rfl⟩
              have hxe : A.L[i]? = some x := by rw [hx, List.getElem?_eq_getElem hil]
              obtain ⟨b, o, cp, cs, ro, e1, hb, hget, _, hrow, hbd⟩ := hu2.1.at (i := i) (r := rowV x) (by simp [hxe])
              rw [List.length_map] at e1
              simp only [Value.slice.injEq] at e1
              obtain ⟨rfl, -, rfl⟩ := e1
              have r0 := row_get hrow 0 (by omega)
              simp only [rowV] at hrow
              simp only [rowV, List.getElem?_cons_zero, Nat.add_zero] at r0
              have hw : IntKind.i64.wrap ((i : Int) + 1) = (i : Int) + 1 := wrap64 (by omega) (by omega)
              have htk : A.L.take (i + 1) = A.L.take i ++ [x] := by rw [List.take_add_one, hxe]; rfl
              have hsn : Sorted (A.L.take i ++ [x]) := by rw [← htk]; exact hs.sublist (List.take_sublist _ _)
              have hget' := ((k2.trans hle).get b hb).trans hget
              have kE : ∀ X : IHeap, IHeap.keep H2.next H' X → H2.le X := fun X kX => ((hle.keep (Nat.le_refl _)).trans kX).le (Nat.le_refl _)
              cases hf : flagV v (A.L.take i) with
              | true =>
                rw [hf] at t7
                obtain ⟨hvx, hac⟩ := accV_after hsn hf
                have hne : ¬ x.slot = v.slot := by omega
                have hf2 : flagV v (A.L.take (i + 1)) = true := by rw [htk, flagV_snoc, hf]; rfl
                have kC := H'.le_alloc (.cells (rowV x) false)
                obtain ⟨v4, H4, e4, gr4, k4⟩ := app4 (hgr.le kC) (by simp only [YU]; omega) (by omega) x
                have f4 := one4 H' x
                rw [← hac, ← htk] at gr4
                simp only [rowV] at f4 e4 k4
                simp -implicitDefEqProofs [J0,J1,J2,J3,J4,J5,J6,J7,J8,J9,Ja,Jb,Jc,Jd,Je,Jf,Jg,Jh,Ji,Jj,Jk,Jl,Jm,Jn,Jo,Jp,Jq,Jr,Js,Jt,Ju,Jv,Jw,Jx,Jy,Jz,JA,JB,JC,JD,JE,JF,JG,JH,JI,JJ,JK,JL,JM,JN,JO,JP,stillI,IOp.kind,JQ,JR,JS,JT,JU,JV,JW,JX,JY,JZ,Y0,Y1,Y2,Y3,Y4,Y5,Y6,Y7,Y8,Y9,Ya,Yb,Yc,Yd,Ye,Yf,Yg,Yh,Yi,Yj,Yk,Yl,Ym,Yn,ial,Yo,Yp,Yq,Yr,Ys,Yt,Yu,Yv,ires,iresL,ires1,Yw,Yx,Yy,Yz,YA,YB,bin2,YC,YD,YE,YF,YG,YH,YI,YJ,YK,YL,YM,YN,YO,YP,YQ,YR,un1,shOk,eqL,eq1,fillL,putAt,IHeap.load1,IHeap.loadL,IHeap.storeL,YS,YT,YU,YV,YW,YX,YY,YZ,B0,B1,B2,B3,B4,B5,B6,B7,B8,B9,Ba,Bb,Bc,Bd,Be,Bf,Bg,Bh,Bi,Bj,Bk,Bl,Bm, t2, t3, t4, t7, t8, gx, gv, hil, hil', hget', r0, hne, hrow, hbd, lenOfI, f4, e4, hw]
                exact ⟨A.L.length - (i + 1), by omega, i + 1, by omega, rfl, by rw [hf2], by simp, kE _ (((H'.le_alloc _).keep (by omega)).trans k4), gr4⟩
              | false =>
                rw [hf] at t7
                have hac := accV_before (x := x) hf
                rw [← htk] at hac
                have hnf := (accV_nof hf).1
                rw [hnf] at hgr hal
                have hf2 : flagV v (A.L.take (i + 1)) = decide (v.slot ≤ x.slot) := by rw [htk, flagV_snoc, hf]; rfl
                by_cases h1 : x.slot < v.slot
                · have h1' : ¬ v.slot ≤ x.slot := by omega
                  have hne : ¬ x.slot = v.slot := by omega
                  rw [if_pos h1] at hac
                  rw [decide_eq_false h1'] at hf2
                  have kC := H'.le_alloc (.cells (rowV x) false)
                  obtain ⟨v4, H4, e4, gr4, k4⟩ := app4 (hgr.le kC) (by simp only [YU]; omega) (by omega) x
                  have f4 := one4 H' x
                  rw [← htk, ← hac] at gr4
                  simp only [rowV] at f4 e4 k4
                  simp -implicitDefEqProofs [J0,J1,J2,J3,J4,J5,J6,J7,J8,J9,Ja,Jb,Jc,Jd,Je,Jf,Jg,Jh,Ji,Jj,Jk,Jl,Jm,Jn,Jo,Jp,Jq,Jr,Js,Jt,Ju,Jv,Jw,Jx,Jy,Jz,JA,JB,JC,JD,JE,JF,JG,JH,JI,JJ,JK,JL,JM,JN,JO,JP,stillI,IOp.kind,JQ,JR,JS,JT,JU,JV,JW,JX,JY,JZ,Y0,Y1,Y2,Y3,Y4,Y5,Y6,Y7,Y8,Y9,Ya,Yb,Yc,Yd,Ye,Yf,Yg,Yh,Yi,Yj,Yk,Yl,Ym,Yn,ial,Yo,Yp,Yq,Yr,Ys,Yt,Yu,Yv,ires,iresL,ires1,Yw,Yx,Yy,Yz,YA,YB,bin2,YC,YD,YE,YF,YG,YH,YI,YJ,YK,YL,YM,YN,YO,YP,YQ,YR,un1,shOk,eqL,eq1,fillL,putAt,IHeap.load1,IHeap.loadL,IHeap.storeL,YS,YT,YU,YV,YW,YX,YY,YZ,B0,B1,B2,B3,B4,B5,B6,B7,B8,B9,Ba,Bb,Bc,Bd,Be,Bf,Bg,Bh,Bi,Bj,Bk,Bl,Bm, t2, t3, t4, t7, t8, gx, gv, hil, hil', hget', r0, h1', hne, hrow, hbd, lenOfI, f4, e4, hw]
                  exact ⟨A.L.length - (i + 1), by omega, i + 1, by omega, rfl, by rw [hf2], by simp, kE _ (((H'.le_alloc _).keep (by omega)).trans k4), gr4⟩
                · have h1' : v.slot ≤ x.slot := by omega
                  rw [if_neg h1] at hac
                  rw [decide_eq_true h1'] at hf2
                  have kC := H'.le_alloc (.cells (rowV v) false)
                  obtain ⟨v4, H4, e4, gr4, k4⟩ := app4 (hgr.le kC) (by simp only [YU]; omega) (by omega) v
                  have f4 := one4 H' v
                  have kk4 := kE _ (((H'.le_alloc _).keep (by omega)).trans k4)
                  have gx4 := (kk4.get H.next (by omega)).trans g22
                  have gv4 := (kk4.get (H.next + 1) (by omega)).trans g2v
                  have hget4 := ((k2.trans kk4).get b hb).trans hget
                  by_cases h2 : x.slot = v.slot
                  · rw [if_pos h2] at hac
                    rw [← hac] at gr4
                    simp only [rowV] at f4 e4 k4
                    rw [h2] at r0
                    simp -implicitDefEqProofs [J0,J1,J2,J3,J4,J5,J6,J7,J8,J9,Ja,Jb,Jc,Jd,Je,Jf,Jg,Jh,Ji,Jj,Jk,Jl,Jm,Jn,Jo,Jp,Jq,Jr,Js,Jt,Ju,Jv,Jw,Jx,Jy,Jz,JA,JB,JC,JD,JE,JF,JG,JH,JI,JJ,JK,JL,JM,JN,JO,JP,stillI,IOp.kind,JQ,JR,JS,JT,JU,JV,JW,JX,JY,JZ,Y0,Y1,Y2,Y3,Y4,Y5,Y6,Y7,Y8,Y9,Ya,Yb,Yc,Yd,Ye,Yf,Yg,Yh,Yi,Yj,Yk,Yl,Ym,Yn,ial,Yo,Yp,Yq,Yr,Ys,Yt,Yu,Yv,ires,iresL,ires1,Yw,Yx,Yy,Yz,YA,YB,bin2,YC,YD,YE,YF,YG,YH,YI,YJ,YK,YL,YM,YN,YO,YP,YQ,YR,un1,shOk,eqL,eq1,fillL,putAt,IHeap.load1,IHeap.loadL,IHeap.storeL,YS,YT,YU,YV,YW,YX,YY,YZ,B0,B1,B2,B3,B4,B5,B6,B7,B8,B9,Ba,Bb,Bc,Bd,Be,Bf,Bg,Bh,Bi,Bj,Bk,Bl,Bm, t2, t3, t4, t7, t8, gx, gv, hil, hil', hget', r0, h1', lenOfI, f4, e4, gx4, gv4, hget4, hw]
                    exact ⟨A.L.length - (i + 1), by omega, i + 1, by omega, rfl, by rw [hf2], by simp, kk4, gr4⟩
                  · rw [if_neg h2] at hac
                    have kC2 := H4.le_alloc (.cells (rowV x) false)
                    have n4 := kk4.next
                    obtain ⟨v5, H5, e5, gr5, k5⟩ := app4 (gr4.le kC2) (by simp only [YU]; omega) (by simp; omega) x
                    have f5 := one4 H4 x
                    rw [← hac] at gr5
                    simp only [rowV] at f4 e4 f5 e5 k4 k5
                    simp -implicitDefEqProofs [J0,J1,J2,J3,J4,J5,J6,J7,J8,J9,Ja,Jb,Jc,Jd,Je,Jf,Jg,Jh,Ji,Jj,Jk,Jl,Jm,Jn,Jo,Jp,Jq,Jr,Js,Jt,Ju,Jv,Jw,Jx,Jy,Jz,JA,JB,JC,JD,JE,JF,JG,JH,JI,JJ,JK,JL,JM,JN,JO,JP,stillI,IOp.kind,JQ,JR,JS,JT,JU,JV,JW,JX,JY,JZ,Y0,Y1,Y2,Y3,Y4,Y5,Y6,Y7,Y8,Y9,Ya,Yb,Yc,Yd,Ye,Yf,Yg,Yh,Yi,Yj,Yk,Yl,Ym,Yn,ial,Yo,Yp,Yq,Yr,Ys,Yt,Yu,Yv,ires,iresL,ires1,Yw,Yx,Yy,Yz,YA,YB,bin2,YC,YD,YE,YF,YG,YH,YI,YJ,YK,YL,YM,YN,YO,YP,YQ,YR,un1,shOk,eqL,eq1,fillL,putAt,IHeap.load1,IHeap.loadL,IHeap.storeL,YS,YT,YU,YV,YW,YX,YY,YZ,B0,B1,B2,B3,B4,B5,B6,B7,B8,B9,Ba,Bb,Bc,Bd,Be,Bf,Bg,Bh,Bi,Bj,Bk,Bl,Bm, t2, t3, t4, t7, t8, gx, gv, hil, hil', hget', r0, h1', lenOfI, f4, e4, gx4, gv4, hget4, h2, hrow, hbd, f5, e5, hw]
                    exact ⟨A.L.length - (i + 1), by omega, i + 1, by omega, rfl, by rw [hf2], by simp, ((kk4.trans (H4.le_alloc _)).keep (Nat.le_refl _) |>.trans k5).le (Nat.le_refl _), gr5⟩
            · have hil' : ¬ (i : Int) < (A.L.length : Int) := by omega
              rw [List.take_of_length_le (by omega)] at hgr t7 hal
              have g3f := (hle.get (H.next + 1 + 1) (by omega)).trans g23
              have fin : ∀ (w : Value) (X : IHeap), H2.le X → Grow X H2.next 4 w ((putV A.L v).map rowV) → ∀ x y, K (.tuple #[aV v.a v.n A.base w, .bool true]) ((X.set H.next x).set (H.next + 1 + 1) y) := by
                intro w X kX gX x y
                have kkX := k2.trans kX
                have nX := kX.next
                refine hK w _ ((kkX.set (Nat.le_refl _) _).set (by omega) _) (gX.slw.upd (S := [H.next, H.next + 1 + 1]) (fun b o m cc e hm => by
                  have := gX.fresh b o m cc e
                  simp only [List.mem_cons, List.not_mem_nil, or_false] at hm
                  omega) (((IHeap.upd_refl _ _).set (.inr (by simp)) _).set (.inr (by simp)) _)) (.inr (gX.blk.weak (by omega) (by simp only [YV]; omega)))
              have hne1 : ¬ H.next + 1 + 1 = H.next := by omega
              cases hf : flagV v A.L with
              | true =>
                rw [hf] at t7
                have e0 : accV v A.L = putV A.L v := by rw [accV, hf]; rfl
                rw [e0] at hgr
                have hgr' := hgr
                obtain ⟨aw, cw, t6⟩ := hgr.len
                rw [List.length_map] at t6
                rw [t6] at hgr'
                simp -implicitDefEqProofs [J0,J1,J2,J3,J4,J5,J6,J7,J8,J9,Ja,Jb,Jc,Jd,Je,Jf,Jg,Jh,Ji,Jj,Jk,Jl,Jm,Jn,Jo,Jp,Jq,Jr,Js,Jt,Ju,Jv,Jw,Jx,Jy,Jz,JA,JB,JC,JD,JE,JF,JG,JH,JI,JJ,JK,JL,JM,JN,JO,JP,stillI,IOp.kind,JQ,JR,JS,JT,JU,JV,JW,JX,JY,JZ,Y0,Y1,Y2,Y3,Y4,Y5,Y6,Y7,Y8,Y9,Ya,Yb,Yc,Yd,Ye,Yf,Yg,Yh,Yi,Yj,Yk,Yl,Ym,Yn,ial,Yo,Yp,Yq,Yr,Ys,Yt,Yu,Yv,ires,iresL,ires1,Yw,Yx,Yy,Yz,YA,YB,bin2,YC,YD,YE,YF,YG,YH,YI,YJ,YK,YL,YM,YN,YO,YP,YQ,YR,un1,shOk,eqL,eq1,fillL,putAt,IHeap.load1,IHeap.loadL,IHeap.storeL,YS,YT,YU,YV,YW,YX,YY,YZ,B0,B1,B2,B3,B4,B5,B6,B7,B8,B9,Ba,Bb,Bc,Bd,Be,Bf,Bg,Bh,Bi,Bj,Bk,Bl,Bm, t2, t3, t4, t6, t7, t8, gx, gv, hil, hil', g3f, hne1]
                exact fin _ _ hle hgr' _ _
              | false =>
                rw [hf] at t7
                obtain ⟨e0, e1⟩ := accV_nof hf
                rw [e0] at hgr hal
                have kC := H'.le_alloc (.cells (rowV v) false)
                obtain ⟨v4, H4, e4, gr4, k4⟩ := app4 (hgr.le kC) (by simp only [YU]; omega) (by omega) v
                have f4 := one4 H' v
                rw [← e1] at gr4
                have kk4 : H2.le H4 := ((hle.keep (Nat.le_refl _)).trans (((H'.le_alloc _).keep (by omega)).trans k4)).le (Nat.le_refl _)
                have gx4 := (kk4.get H.next (by omega)).trans g22
                have g3f4 := (kk4.get (H.next + 1 + 1) (by omega)).trans g23
                have gr4' := gr4
                obtain ⟨aw, cw, rfl⟩ := gr4.len
                rw [List.length_map] at gr4'
                simp only [rowV] at f4 e4
                simp -implicitDefEqProofs [J0,J1,J2,J3,J4,J5,J6,J7,J8,J9,Ja,Jb,Jc,Jd,Je,Jf,Jg,Jh,Ji,Jj,Jk,Jl,Jm,Jn,Jo,Jp,Jq,Jr,Js,Jt,Ju,Jv,Jw,Jx,Jy,Jz,JA,JB,JC,JD,JE,JF,JG,JH,JI,JJ,JK,JL,JM,JN,JO,JP,stillI,IOp.kind,JQ,JR,JS,JT,JU,JV,JW,JX,JY,JZ,Y0,Y1,Y2,Y3,Y4,Y5,Y6,Y7,Y8,Y9,Ya,Yb,Yc,Yd,Ye,Yf,Yg,Yh,Yi,Yj,Yk,Yl,Ym,Yn,ial,Yo,Yp,Yq,Yr,Ys,Yt,Yu,Yv,ires,iresL,ires1,Yw,Yx,Yy,Yz,YA,YB,bin2,YC,YD,YE,YF,YG,YH,YI,YJ,YK,YL,YM,YN,YO,YP,YQ,YR,un1,shOk,eqL,eq1,fillL,putAt,IHeap.load1,IHeap.loadL,IHeap.storeL,YS,YT,YU,YV,YW,YX,YY,YZ,B0,B1,B2,B3,B4,B5,B6,B7,B8,B9,Ba,Bb,Bc,Bd,Be,Bf,Bg,Bh,Bi,Bj,Bk,Bl,Bm, t2, t3, t4, t7, t8, gx, gv, hil, hil', lenOfI, f4, e4, gx4, g3f4, hne1]
                exact fin _ _ kk4 gr4' _ _

end
end Go.Proofs.YtkgfnelapcpibaaI
