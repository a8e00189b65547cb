/- Managers: ManagerFences. -/
import Derived.Test.YtndndcdblfejnaaGreatRMgZ
namespace Go.Proofs.YtndndcdblfejnaaGreatRI
attribute [local simp] J0 J1 J2 J3 J4 J5 J6 J7 J8 J9 Ja Jb Jc Jd Je Jf Jg Jh Ji Jj Jk Jl Jm Jn Jo Jp Jq Jr Js Jt Ju Jv Jw Jx Jy Jz JA JB JC JD JE JF JG JH JI JJ JK JL JM JN JO JP JQ JR JS stillI IOp.kind JT JU JV JW JX JY JZ Y0 Y1 Y2 Y3 Y4 Y5 Y6 Y7 Y8 Y9 Ya Yb Yc Yd Ye Yf Yg Yh Yi Yj Yk Yl Ym Yn Yo Yp Yq ial Yr Ys Yt Yu Yv Yw Yx Yy ires iresL ires1 Yz YA YB YC YD YE bin2 YF YG YH YI YJ YK YL YM YN YO YP YQ YR YS YT YU un1 shOk eqL eq1 fillL putAt IHeap.load1 IHeap.loadL IHeap.storeL YV YW YX YY YZ B0 B1 B2 B3 B4 B5 B6 B7 B8 B9 Ba Bb Bc Bd Be Bf Bg Bh Bi Bj Bk Bl Bm Bn Bo Bp
set_option linter.unusedSimpArgs false
set_option linter.unusedVariables false
open Go

section
variable (c : Ctx) (hc : MgC c) (h3 : HasRef03 c) (hL : HasLaw28 c) (hA : ∀ H K, (∀ H', K (.bool true) H') → c.C (c.F n_hurdlelaw28_awake) [] H K) {H : IHeap} {K : Value → IHeap → Prop}

include hc h3 hL hA in
theorem fences_ok28 {u1 u2 v : Value} {L P : List Int} {l : List DeedG} (h1 : SlW H 1 u1 (L.map rowI)) (h2 : SlW H 1 u2 (P.map rowI)) (hl : SlR H 9 v (l.map rowDG)) (hx : ∀ d ∈ l, okX d.x) (hK : ∀ H', K (.bool true) H') :
    c.C (c.F n_hurdlelaw28_ManagerFences) [.agg #[u1, u2], v] H K := by
  refine c.enter hL.hurdlelaw28_ManagerFences rfl ?_
  have h1' := h1
  have h2' := h2
  obtain ⟨a1, c1, rfl⟩ := h1.len
  obtain ⟨a2, c2, rfl⟩ := h2.len
  have hl' := hl
  obtain ⟨a3, c3, rfl, _⟩ := hl
  obtain ⟨HA, hHA⟩ : ∃ X : IHeap, X = H.alloc (.cells [.slice a1 (L.map rowI).length c1, .slice a2 (P.map rowI).length c2] false) := ⟨_, rfl⟩
  have kA : H.le HA := by rw [hHA]; exact H.le_alloc _
  have nA : HA.next = H.next + 1 := by rw [hHA]; rfl
  have gA : HA.get H.next = some (.cells [.slice a1 (L.map rowI).length c1, .slice a2 (P.map rowI).length c2] false) := by rw [hHA, YV, if_pos rfl]
  obtain ⟨nL, hnL⟩ : ∃ n, n = (L.map rowI).length := ⟨_, rfl⟩
  obtain ⟨nP, hnP⟩ : ∃ n, n = (P.map rowI).length := ⟨_, rfl⟩
  obtain ⟨nl, hnl⟩ : ∃ n, n = (l.map rowDG).length := ⟨_, rfl⟩
  rw [← hnL] at h1' hHA gA
  rw [← hnP] at h2' hHA gA
  rw [← hnl] at hl'
  rw [← hnL, ← hnP, ← hnl]
  simp -implicitDefEqProofs [c_hurdlelaw28_ManagerFences, ← hHA, gA]
  refine call_of (fewG_ok c hL (h1'.le kA) (h2'.le kA) (hl'.le kA) (fun H1 k1 => ?_) fun H1 k1 b1 b2 b3 b4 => ?_)
  · simp -implicitDefEqProofs []
    refine call_of (hA _ _ fun H' => ?_)
    simp -implicitDefEqProofs []
    exact hK _
  have g1 := (k1.get _ (by omega)).trans gA
  have n1 := k1.next
  have w1 := (h1'.le kA).le k1
  have w2 := (h2'.le kA).le k1
  have hnl2 : nl = l.length := by rw [hnl, List.length_map]
  simp -implicitDefEqProofs [g1]
  refine call_of (mgNew c hc w1 w2 (by omega) (by omega) (fun H2 k2 hn => ?_) fun e1 e2 e3 wA pA qA H2 k2 mA lA => ?_)
  · simp -implicitDefEqProofs [nilOf]
    refine call_of (hA _ _ fun H' => ?_)
    simp -implicitDefEqProofs []
    exact hK _
  have zA : ∀ b, b < H1.next → wA b = 0 := fun b hb => Classical.byContradiction fun hh => by have := lA b hh; omega
  have dl : SlD (fun b => b < H1.next) H2 9 (.slice a3 nl c3) (l.map rowDG) := (((hl'.le kA).le k1).slD).le k2
  have bd0 := bdNew (L := L) (S := P) e3
  have n2 := k2.next
  simp -implicitDefEqProofs [nilOf]
  refine loop_nat c.mono (fun m T H' => ∃ (i : Nat) (vA : Nat → Nat) (S : Mst), i ≤ l.length ∧ m = l.length - i ∧ T 1 = .slice a3 nl c3 ∧ T 5 = .pointer (some ⟨pA, 0, none⟩) ∧ T 6 = .int .i64 i ∧
    Bnd i S ∧ MgO vA H' pA qA S ∧ (∀ b, b < H1.next → vA b = 0) ∧ H1.next ≤ H'.next ∧ SlD (fun b => b < H1.next) H' 9 (.slice a3 nl c3) (l.map rowDG)) l.length ?_ ?_
  · exact ⟨0, wA, _, by omega, by omega, by simp -implicitDefEqProofs [], by simp -implicitDefEqProofs [], by simp -implicitDefEqProofs [], bd0, mA, zA, by omega, dl⟩
  · rintro m T H' ⟨i, vA, S, hi, rfl, t1, t5, t6, bd, iA, zz, hn, dd⟩
    by_cases hlt : i < l.length
    · have hltI : (i : Int) < (nl : Int) := by omega
      have hltn : i < nl := by omega
      have hx0 : l[i]? = some l[i] := List.getElem?_eq_getElem hlt
      obtain ⟨d, hd⟩ : ∃ d, d = l[i] := ⟨_, rfl⟩
      rw [← hd] at hx0
      have hdx := hx d (List.mem_of_getElem? hx0)
      have hdt := b4 d (List.mem_of_getElem? hx0)
      have hbl := bytesOf_len hdx hdt
      obtain ⟨b, o, cp, cs, ro, ea, hbl2, hget, hrl, hrow, hbd⟩ := dd.1.at (i := i) (r := rowDG d) (by simp [hx0])
      rw [← hnl] at ea
      simp only [Value.slice.injEq] at ea
      obtain ⟨rfl, -, rfl⟩ := ea
      have hbH : b < H1.next := dd.2 b o nl c3 rfl (by intro e; rw [List.map_eq_nil_iff] at e; rw [e] at hlt; simp at hlt)
      have hfit : o + i * 9 + 9 ≤ cs.length := by omega
      have nH := iA.lp
      simp -implicitDefEqProofs [t1, t5, t6, hltn, hltI]
      refine call_of (mgStripesF c hc (st := 2) iA fun was H3 k3 ds => ?_)
      have iA3 := iA.le k3
      have n3 := k3.next
      simp -implicitDefEqProofs [t5]
      refine call_of (mgEpoch c hc iA3 ?_)
      have gt3 := (k3.get b (by omega)).trans hget
      simp -implicitDefEqProofs [t1, t5, t6, hltn, hltI, gt3, hfit, hrow, rowDG]
      refine call_of (bytesG_ok c h3 hL (d := d) hdx fun H4 k4 => ?_)
      have iA4 := iA3.le k4
      have n4 := k4.next
      simp -implicitDefEqProofs [t5]
      refine call_of (mgDo c hc iA4 bd (by omega) hbl fun vA5 H5 s5 iA5 => ?_)
      have n5 := s5.fr.next
      have zA5 : ∀ b, b < H1.next → vA5 b = 0 := fun b hb => Classical.byContradiction fun hh => by
        rcases s5.gw b hh with z | z
        · exact z (zz b hb)
        · omega
      have bd5 := bd.do (s := bytesOf d) (by omega)
      have dl5 : SlD (fun b => b < H1.next) H5 9 (.slice (some ⟨b, o, none⟩) nl c3) (l.map rowDG) := ((dd.le k3).le k4).sg s5 fun b hb => zz b hb
      have dw5 := (ds.le k4).sg s5 fun b hb => iA.zero hb.1
      have hfen := do_fenced S (bytesOf d)
      obtain ⟨S2, hS2⟩ : ∃ S2, S2 = (mDo S (bytesOf d)).1 := ⟨_, rfl⟩
      rw [← hS2] at iA5 bd5 hfen
      simp -implicitDefEqProofs [t5]
      refine call_of (mgStripes c hc (st := 2) iA5 fun now H6 k6 sn => ?_)
      have iA6 := iA5.le k6
      have n6 := k6.next
      obtain ⟨W, hW⟩ : ∃ W, W = wh (fun x => decide (x.st = 2)) 0 S.s := ⟨_, rfl⟩
      obtain ⟨N, hN⟩ : ∃ N, N = wh (fun x => decide (x.st = 2)) 0 S2.s := ⟨_, rfl⟩
      rw [← hW] at dw5
      rw [← hN] at sn
      have sw6 := dw5.1.le k6
      have sn6 := sn.1
      obtain ⟨aw, cw, ew, _⟩ := dw5.1
      obtain ⟨an, cn, en, _⟩ := sn.1
      rw [List.length_map] at ew en
      subst ew
      subst en
      have dl6 := dl5.le k6
      have w5 : IntKind.i64.wrap ((i : Int) + 1) = (i : Int) + 1 := wrap64 (by omega) (by omega)
      have lN : N.length ≤ 4096 := by rw [hN, wh_len]; exact Nat.le_trans List.countP_le_length (StB.len c hc iA6.s).1
      have lW : W.length ≤ 4096 := by rw [hW, wh_len]; exact Nat.le_trans List.countP_le_length (StB.len c hc iA.s).1
      simp -implicitDefEqProofs [t1, t5, t6]
      refine loop_nat c.mono (fun m T' H' => ∃ k : Nat, k ≤ N.length ∧ m = N.length - k ∧ T' 1 = .slice (some ⟨b, o, none⟩) nl c3 ∧ T' 5 = .pointer (some ⟨pA, 0, none⟩) ∧ T' 6 = .int .i64 i ∧ T' 7 = .slice aw W.length cw ∧ T' 8 = .int .i64 S.g.e ∧ T' 9 = .slice an N.length cn ∧ T' 10 = .int .i64 k ∧ H6.le H') N.length ?_ ?_
      · exact ⟨0, by omega, by omega, by simp -implicitDefEqProofs [t1], by simp -implicitDefEqProofs [t5], by simp -implicitDefEqProofs [t6], by simp -implicitDefEqProofs [], by simp -implicitDefEqProofs [], by simp -implicitDefEqProofs [], by simp -implicitDefEqProofs [], IHeap.le_refl _⟩
      · rintro m T' H7 ⟨k, hk, rfl, q1, q5, q6, q7, q8, q9, q10, k7⟩
        have n7 := k7.next
        by_cases hkl : k < N.length
        · have hklI : (k : Int) < (N.length : Int) := by omega
          have hy0 : N[k]? = some N[k] := List.getElem?_eq_getElem hkl
          obtain ⟨nk, hnk⟩ : ∃ nk, nk = N[k] := ⟨_, rfl⟩
          rw [← hnk] at hy0
          obtain ⟨b9, o9, c9, cs9, ro9, ea9, hb9, hg9, _, hr9, hd9⟩ := (sn6.le k7).at (i := k) (r := rowI nk) (by simp [hy0])
          rw [List.length_map] at ea9
          simp only [Value.slice.injEq] at ea9
          obtain ⟨rfl, -, rfl⟩ := ea9
          have hc9 := row_at hr9 0 (by omega)
          simp only [rowI, List.getElem?_cons_zero, Nat.add_zero, Nat.mul_one] at hc9
          obtain ⟨y, hy1, hy2⟩ := com_mem.1 (hN ▸ List.mem_of_getElem? hy0)
          simp -implicitDefEqProofs [q1, q5, q6, q7, q8, q9, q10, hkl, hklI]
          refine loop_nat c.mono (fun m T2 H' => ∃ j : Nat, j ≤ W.length ∧ m = W.length - j ∧ T2 1 = .slice (some ⟨b, o, none⟩) nl c3 ∧ T2 5 = .pointer (some ⟨pA, 0, none⟩) ∧ T2 6 = .int .i64 i ∧ T2 7 = .slice aw W.length cw ∧ T2 8 = .int .i64 S.g.e ∧ T2 9 = .slice (some ⟨b9, o9, none⟩) N.length cn ∧ T2 10 = .int .i64 k ∧
            T2 11 = .bool (decide (nk ∈ W.take j)) ∧ T2 12 = .int .i64 j ∧ H' = H7) W.length ?_ ?_
          · exact ⟨0, by omega, by omega, by simp -implicitDefEqProofs [q1], by simp -implicitDefEqProofs [q5], by simp -implicitDefEqProofs [q6], by simp -implicitDefEqProofs [q7], by simp -implicitDefEqProofs [q8], by simp -implicitDefEqProofs [q9], by simp -implicitDefEqProofs [q10], by simp -implicitDefEqProofs [], by simp -implicitDefEqProofs [], rfl⟩
          · rintro m T2 H8 ⟨j, hj, rfl, p1, p5, p6, p7, p8, p9, p10, p11, p12, rfl⟩
            by_cases hjl : j < W.length
            · have hjlI : (j : Int) < (W.length : Int) := by omega
              have hj0 : W[j]? = some W[j] := List.getElem?_eq_getElem hjl
              obtain ⟨wj, hwj⟩ : ∃ wj, wj = W[j] := ⟨_, rfl⟩
              rw [← hwj] at hj0
              obtain ⟨b7, o7, c7, cs7, ro7, ea7, hb7, hg7, _, hr7, hd7⟩ := (sw6.le k7).at (i := j) (r := rowI wj) (by simp [hj0])
              rw [List.length_map] at ea7
              simp only [Value.slice.injEq] at ea7
              obtain ⟨rfl, -, rfl⟩ := ea7
              have hc7 := row_at hr7 0 (by omega)
              simp only [rowI, List.getElem?_cons_zero, Nat.add_zero, Nat.mul_one] at hc7
              have ht : W.take (j + 1) = W.take j ++ [wj] := by rw [List.take_add_one, hj0]; rfl
              have w12 : IntKind.i64.wrap ((j : Int) + 1) = (j : Int) + 1 := wrap64 (by omega) (by omega)
              by_cases hm : nk ∈ W.take j
              · have p11' : T2 11 = .bool true := by rw [p11, decide_eq_true hm]
                have hm2 : nk ∈ W.take (j + 1) := by rw [ht]; simp [hm]
                simp -implicitDefEqProofs [p1, p5, p6, p7, p8, p9, p10, p11', p12, hjl, hjlI, w12]
                exact ⟨W.length - (j + 1), by omega, j + 1, by omega, rfl, hm2, by omega⟩
              · have p11' : T2 11 = .bool false := by rw [p11, decide_eq_false hm]
                by_cases hq : wj = nk
                · have hm2 : nk ∈ W.take (j + 1) := by rw [ht]; simp [hq]
                  simp -implicitDefEqProofs [p1, p5, p6, p7, p8, p9, p10, p11', p12, hjl, hjlI, hkl, hklI, hg7, hc7, hg9, hc9, hq, w12]
                  exact ⟨W.length - (j + 1), by omega, j + 1, by omega, rfl, hm2, by omega⟩
                · have hm2 : nk ∉ W.take (j + 1) := by rw [ht]; simp [hm]; exact fun e => hq e.symm
                  simp -implicitDefEqProofs [p1, p5, p6, p7, p8, p9, p10, p11', p12, hjl, hjlI, hkl, hklI, hg7, hc7, hg9, hc9, hq, w12]
                  exact ⟨W.length - (j + 1), by omega, j + 1, by omega, rfl, hm2, by omega⟩
            · have hje : j = W.length := by omega
              subst hje
              have hjlI : ¬ ((W.length : Nat) : Int) < (W.length : Int) := by omega
              rw [List.take_length] at p11
              simp -implicitDefEqProofs [p1, p5, p6, p7, p8, p9, p10, p11, p12, hjlI, hkl, hklI, hg9, hc9]
              refine call_of (mgStripe c hc (iA6.le k7) (fun hn => absurd hy1 (by rw [hn]; simp)) fun y' vs H9 hy' k9 sv => ?_)
              have hyy : y' = y := by rw [hy1] at hy'; injection hy' with e; exact e.symm
              subst hyy
              have n9 := k9.next
              obtain ⟨as, cps, rfl⟩ := sv.len
              obtain ⟨sl, hsl⟩ : ∃ sl, sl = (y'.sv.map rowI).length := ⟨_, rfl⟩
              rw [← hsl]
              obtain ⟨Ha, hHa⟩ : ∃ X : IHeap, X = (H9.alloc (.cells [.int .i64 0, .int .i64 0, .int .i64 0, .int .i64 0, .int .i64 0, .slice none 0 0] false)).set H9.next (.cells [.int .i64 (nk.toNat : Nat), .int .i64 y'.st, .int .i64 y'.ow, .int .i64 y'.ep, .int .i64 y'.le, .slice as sl cps] false) := ⟨_, rfl⟩
              have ka : H9.le Ha := by rw [hHa]; exact (H9.le_alloc _).set (Nat.le_refl _) _
              have ga : Ha.get H9.next = some (.cells [.int .i64 (nk.toNat : Nat), .int .i64 y'.st, .int .i64 y'.ow, .int .i64 y'.ep, .int .i64 y'.le, .slice as sl cps] false) := by rw [hHa, YW, if_pos rfl]
              obtain ⟨tn, htn⟩ : ∃ tn : Int, tn = ((nk.toNat : Nat) : Int) := ⟨_, rfl⟩
              unfold stV
              rw [← htn] at hHa ga ⊢
              have w10 : IntKind.i64.wrap ((k : Int) + 1) = (k : Int) + 1 := wrap64 (by omega) (by omega)
              have kz := (k7.trans k9).trans ka
              by_cases hm : nk ∈ W
              · have p11' : T2 11 = .bool true := by rw [p11, decide_eq_true hm]
                simp -implicitDefEqProofs [← hHa, ga, p1, p5, p6, p7, p8, p9, p10, p11', w10]
                exact ⟨N.length - (k + 1), by omega, k + 1, by omega, rfl, by omega, kz⟩
              · have p11' : T2 11 = .bool false := by rw [p11, decide_eq_false hm]
                have hep : y'.ep = S.g.e := (hfen nk y' hy1 hy2).resolve_left fun z => hm (hW ▸ com_mem.2 z)
                rw [hep] at hHa ga ⊢
                simp -implicitDefEqProofs [← hHa, ga, p1, p5, p6, p7, p8, p9, p10, p11', w10]
                exact ⟨N.length - (k + 1), by omega, k + 1, by omega, rfl, by omega, kz⟩
        · have hke : k = N.length := by omega
          subst hke
          have hklI : ¬ ((N.length : Nat) : Int) < (N.length : Int) := by omega
          simp -implicitDefEqProofs [q1, q5, q6, q7, q8, q9, q10, hklI, w5]
          exact ⟨l.length - (i + 1), by omega, i + 1, by omega, rfl, by omega, vA5, S2, bd5, iA6.le k7, zA5, by omega, dl6.le k7⟩
    · have hie : i = l.length := by omega
      subst hie
      have hltI : ¬ ((l.length : Nat) : Int) < (nl : Int) := by omega
      have hltn : ¬ l.length < nl := by omega
      simp -implicitDefEqProofs [t1, t5, t6, hltI, hltn]
      refine call_of (hA _ _ fun H' => ?_)
      simp -implicitDefEqProofs []
      exact hK _
end
end Go.Proofs.YtndndcdblfejnaaGreatRI
