/- Who proposes: counting votes. / Who proposes: promises. / Who proposes: what it fills. / Who proposes: what stays right; one that is none. -/
import Derived.Test.YtpbbjfighohokaaProC
namespace Go.Proofs.YtpbbjfighohokaaI
attribute [local simp] J0 J1 J2 J3 J4 J5 J6 J7 J8 J9 Ja Jb Jc Jd Je Jf Jg Jh Ji Jj Jk Jl Jm Jn Jo Jp Jq Jr Js Jt Ju Jv Jw Jx Jy Jz JA JB JC JD JE JF JG JH JI JJ JK JL JM JN JO JP JQ JR JS stillI IOp.kind JT JU JV JW JX JY JZ Y0 Y1 Y2 Y3 Y4 Y5 Y6 Y7 Y8 Y9 Ya Yb Yc Yd Ye Yf Yg Yh Yi Yj Yk Yl Ym Yn Yo Yp Yq ial Yr Ys Yt Yu Yv Yw Yx Yy ires iresL ires1 Yz YA YB YC YD YE bin2 YF YG YH YI YJ YK YL YM YN YO YP YQ YR YS YT YU un1 shOk eqL eq1 fillL putAt IHeap.load1 IHeap.loadL IHeap.storeL YV YW YX YY YZ B0 B1 B2 B3 B4 B5 B6 B7 B8 B9 Ba Bb Bc Bd Be Bf Bg Bh Bi Bj Bk Bl Bm Bn Bo Bp
set_option linter.unusedSimpArgs false
set_option linter.unusedVariables false
open Go

theorem IsP.getNext {B : Nat → Prop} {H : IHeap} {p : Nat} {P : Pro} (h : IsP B H p P) (hd : P.does ≠ 0) : ∃ r, H.get p = some (.cells (cellsP P (.map (some r))) false) ∧ B r ∧ IsMap H r kI vV P.best ∧ p ≠ r := by
  obtain ⟨_, _, mv, g, hm⟩ := h
  rcases hm with ⟨_, _, h0⟩ | ⟨r, rfl, hr, hm⟩
  · exact absurd h0 hd
  · exact ⟨r, g, hr, hm, hm.ne_cells g⟩

section
variable (c : Ctx) (hA : HasBalA c) (hB : HasBalB c) (hD : HasBalD c) (hc : HasProp c) (hT : ProT c) {H : IHeap} {K : Value → IHeap → Prop} {B : Nat → Prop} {p : Nat} {P : Pro}

include hA hc hT in
theorem Pcount_ok {v : VoteD} (h : IsP B H p P) (hd : P.does ≠ 0) (hfr : 0 ≤ P.fr) (hK : ∀ H', Fr B H H' → IsP B H' p (P.count v) → K (.tuple #[]) H') :
    c.C (c.F n_proposer_Proposer_count) [.pointer (some ⟨p, 0, none⟩), vV v] H K := by
  refine c.enter hc.proposer_Proposer_count rfl ?_
  obtain ⟨r, g, hr, hm, hne⟩ := h.getNext hd
  have hp := h.lt p h.own
  have hrl := h.lt r hr
  have e1 : ¬ p = H.next := by omega
  obtain ⟨H0, hH0⟩ : ∃ X : IHeap, X = H.alloc (.cells (rowV v) false) := ⟨_, rfl⟩
  have k0 : H.le H0 := by rw [hH0]; exact H.le_alloc _
  have n0 : H0.next = H.next + 1 := by rw [hH0]; rfl
  have b0 : H0.get H.next = some (.cells [.int .i64 v.slot, .int .i64 v.a, .int .i64 v.n, .string v.val] false) := by rw [hH0, YV, if_pos rfl]; rfl
  have g0 := (k0.get p hp).trans g
  have hH0' : H.alloc (.cells [.int .i64 v.slot, .int .i64 v.a, .int .i64 v.n, .string v.val] false) = H0 := by rw [hH0]; rfl
  have hl : v.val.data.toList.length = v.val.size := rfl
  have bad : ∀ HX, H.le HX → P.takes v = false → K (.tuple #[]) HX := by
    intro HX kX ht
    have : P.count v = P := by unfold Pro.count; rw [ht]; rfl
    rw [this] at hK
    exact hK HX (kX.fr B) (h.le kX)
  by_cases h1 : v.slot < P.fr
  · simp -implicitDefEqProofs [c_proposer_Proposer_count, vV, hH0', b0, g0, cP0, cP1, cP2, cP4, cP5, cP6, cP7, cP15, cQ0, cQ1, cQ4, cQ5, cQ6, cQ7, cQ15, cPlen, tP2, tP4, tP6, tP7, h1]
    exact bad H0 k0 (by unfold Pro.takes; rw [decide_eq_false (by omega)]; rfl)
  · by_cases h2 : 1024 ≤ v.slot
    · simp -implicitDefEqProofs [c_proposer_Proposer_count, vV, hH0', b0, g0, cP0, cP1, cP2, cP4, cP5, cP6, cP7, cP15, cQ0, cQ1, cQ4, cQ5, cQ6, cQ7, cQ15, cPlen, tP2, tP4, tP6, tP7, h1, h2]
      exact bad H0 k0 (by unfold Pro.takes; rw [decide_eq_false (p := v.slot < 1024) (by omega)]; simp)
    · simp -implicitDefEqProofs [c_proposer_Proposer_count, vV, hH0', b0, g0, cP0, cP1, cP2, cP4, cP5, cP6, cP7, cP15, cQ0, cQ1, cQ4, cQ5, cQ6, cQ7, cQ15, cPlen, tP2, tP4, tP6, tP7, h1, h2]
      refine dcall_of c.mono (Valid_ok c hA fun H1 k1 => ?_)
      have n1 := k1.next
      have b1 := (k1.get H.next (by omega)).trans b0
      have k01 := k0.trans k1
      have g1 := (k01.get p hp).trans g
      by_cases h3 : validB v.a v.n = true
      · by_cases h4 : 4096 < v.val.size
        · have h4' : (4096 : Int) < (v.val.size : Int) := by omega
          simp -implicitDefEqProofs [b1, hl, h3, h4, h4']
          exact bad H1 k01 (by unfold Pro.takes; rw [h3, decide_eq_false (p := v.val.size ≤ 4096) (by omega)]; simp)
        · have h4' : ¬ (4096 : Int) < (v.val.size : Int) := by omega
          have ht : P.takes v = true := by unfold Pro.takes; simp only [h3, Bool.true_and, Bool.and_eq_true, decide_eq_true_eq]; omega
          have w1 : IntKind.i64.wrap (v.slot + 1) = v.slot + 1 := wrap64 (by omega) (by omega)
          obtain ⟨nx, hnx⟩ : ∃ nx, nx = (if v.slot + 1 > P.next then v.slot + 1 else P.next) := ⟨_, rfl⟩
          have hcount : P.count v = if better (P.best v.slot) v then (P.setNext nx).setBest v else P.setNext nx := by unfold Pro.count; rw [ht, if_pos rfl, hnx]
          rw [hcount] at hK
          obtain ⟨H2, hH2⟩ : ∃ X : IHeap, X = H1.set p (.cells (cellsP (P.setNext nx) (.map (some r))) false) := ⟨_, rfl⟩
          have k2 : Fr B H H2 := by rw [hH2]; exact (k01.fr B).set (.inl h.own) _
          have n2 : H2.next = H1.next := by rw [hH2]; rfl
          have g2 : H2.get p = some (.cells (cellsP (P.setNext nx) (.map (some r))) false) := by rw [hH2, YW, if_pos rfl]
          have m2 : IsMap H2 r kI vV P.best := hm.same k2.next (by rw [hH2, YW, if_neg (fun e => hne e.symm), k01.get r hrl])
          have b2 : H2.get H.next = some (.cells [.int .i64 v.slot, .int .i64 v.a, .int .i64 v.n, .string v.val] false) := by rw [hH2, YW, if_neg (fun e => e1 e.symm)]; exact b1
          have lk := m2.look (P := c.P) (keyOf_int hT.key) v.slot (.agg #[.int .i64 0, .int .i64 0, .int .i64 0, .string ⟨#[]⟩]) true
          simp only [kI] at lk
          have fin : ∀ HX (HY : IHeap), Fr B H HX → HX.get p = some (.cells (cellsP (P.setNext nx) (.map (some r))) false) → IsMap HX r kI vV P.best → HX.get H.next = some (.cells [.int .i64 v.slot, .int .i64 v.a, .int .i64 v.n, .string v.val] false) →
              better (P.best v.slot) v = true → ∃ o, putR c.P HX (c.Ty 2) (.map (some r)) (.int .i64 v.slot) (.agg #[.int .i64 v.slot, .int .i64 v.a, .int .i64 v.n, .string v.val]) = some (undef, HX.set r o) ∧ K (.tuple #[]) (HX.set r o) := by
            intro HX _ fX gX mX bX hbt
            obtain ⟨o, e1, e2⟩ := mX.put (P := c.P) (keyOf_int hT.key) v.slot v
            refine ⟨o, e1, ?_⟩
            rw [hbt, if_pos rfl] at hK
            refine hK _ (fX.set (.inl hr) _) ⟨fun b hb => Nat.lt_of_lt_of_le (h.lt b hb) fX.next, h.own, .map (some r), ?_, .inr ⟨r, rfl, hr, ?_⟩⟩
            · rw [YW, if_neg hne]; exact gX
            · exact e2
          have keep : ∀ HX, Fr B H HX → HX.get p = some (.cells (cellsP (P.setNext nx) (.map (some r))) false) → IsMap HX r kI vV P.best → better (P.best v.slot) v = false → K (.tuple #[]) HX := by
            intro HX fX gX mX hbt
            rw [hbt, if_neg (by simp)] at hK
            exact hK _ fX ⟨fun b hb => Nat.lt_of_lt_of_le (h.lt b hb) fX.next, h.own, .map (some r), gX, .inr ⟨r, rfl, hr, mX⟩⟩
          have ep2 : ¬ p = H2.next := by have := k2.next; omega
          have eb2 : ¬ H.next = H2.next := by have := k2.next; omega
          have er2 : ¬ r = H2.next := by have := k2.next; omega
          cases hq : P.best v.slot with
          | none =>
            rw [hq] at lk
            have hbt : better (P.best v.slot) v = true := by rw [hq]; rfl
            obtain ⟨H3, hH3⟩ : ∃ X : IHeap, X = (H2.alloc (.cells [.int .i64 0, .int .i64 0, .int .i64 0, .string ⟨#[]⟩] false)).set H2.next (.cells [.int .i64 0, .int .i64 0, .int .i64 0, .string ⟨#[]⟩] false) := ⟨_, rfl⟩
            have k3 : H2.le H3 := by rw [hH3]; exact (H2.le_alloc _).set (Nat.le_refl _) _
            have g3 := (k3.get p (by omega)).trans g2
            have b3 := (k3.get H.next (by omega)).trans b2
            obtain ⟨o, q1, q2⟩ := fin H3 H3 (k2.trans_le k3) g3 (m2.le k3) b3 hbt
            simp -implicitDefEqProofs [b1, hl, h3, h4, h4', g1, cP0, cP1, cP2, cP4, cP5, cP6, cP7, cP15, cQ0, cQ1, cQ4, cQ5, cQ6, cQ7, cQ15, cPlen, tP2, tP4, tP6, tP7, w1, ← hnx, ← hH2, g2, b2, lk, ← hH3, g3, b3, q1]
            exact q2
          | some w =>
            rw [hq] at lk
            obtain ⟨H3, hH3⟩ : ∃ X : IHeap, X = (H2.alloc (.cells [.int .i64 0, .int .i64 0, .int .i64 0, .string ⟨#[]⟩] false)).set H2.next (.cells [.int .i64 w.slot, .int .i64 w.a, .int .i64 w.n, .string w.val] false) := ⟨_, rfl⟩
            have k3 : H2.le H3 := by rw [hH3]; exact (H2.le_alloc _).set (Nat.le_refl _) _
            have n3 : H3.next = H2.next + 1 := by rw [hH3]; rfl
            have b3 := (k3.get H.next (by omega)).trans b2
            have w3 : H3.get H2.next = some (.cells [.int .i64 w.slot, .int .i64 w.a, .int .i64 w.n, .string w.val] false) := by rw [hH3, YW, if_pos rfl]
            simp -implicitDefEqProofs [b1, hl, h3, h4, h4', g1, cP0, cP1, cP2, cP4, cP5, cP6, cP7, cP15, cQ0, cQ1, cQ4, cQ5, cQ6, cQ7, cQ15, cPlen, tP2, tP4, tP6, tP7, w1, ← hnx, ← hH2, g2, b2, lk, vV, ← hH3, b3, w3]
            refine call_of (Cmp_ok c hA fun H4 k4 => ?_)
            have k34 := k3.trans k4
            have g4 := (k34.get p (by omega)).trans g2
            have b4 := (k34.get H.next (by omega)).trans b2
            by_cases hcm : 0 < cmpB v.a v.n w.a w.n
            · have hbt : better (P.best v.slot) v = true := by rw [hq]; exact decide_eq_true hcm
              obtain ⟨o, q1, q2⟩ := fin H4 H4 (k2.trans_le k34) g4 (m2.le k34) b4 hbt
              simp -implicitDefEqProofs [hcm, g4, b4, cP0, cP1, cP2, cP4, cP5, cP6, cP7, cP15, cQ0, cQ1, cQ4, cQ5, cQ6, cQ7, cQ15, cPlen, tP2, tP4, tP6, tP7, q1]
              exact q2
            · have hbt : better (P.best v.slot) v = false := by rw [hq]; exact decide_eq_false hcm
              simp -implicitDefEqProofs [hcm]
              exact keep H4 (k2.trans_le k34) g4 (m2.le k34) hbt
      · simp -implicitDefEqProofs [b1, hl, h3]
        exact bad H1 k01 (by unfold Pro.takes; simp [h3])
end
end Go.Proofs.YtpbbjfighohokaaI
namespace Go.Proofs.YtpbbjfighohokaaI
attribute [local simp] J0 J1 J2 J3 J4 J5 J6 J7 J8 J9 Ja Jb Jc Jd Je Jf Jg Jh Ji Jj Jk Jl Jm Jn Jo Jp Jq Jr Js Jt Ju Jv Jw Jx Jy Jz JA JB JC JD JE JF JG JH JI JJ JK JL JM JN JO JP JQ JR JS stillI IOp.kind JT JU JV JW JX JY JZ Y0 Y1 Y2 Y3 Y4 Y5 Y6 Y7 Y8 Y9 Ya Yb Yc Yd Ye Yf Yg Yh Yi Yj Yk Yl Ym Yn Yo Yp Yq ial Yr Ys Yt Yu Yv Yw Yx Yy ires iresL ires1 Yz YA YB YC YD YE bin2 YF YG YH YI YJ YK YL YM YN YO YP YQ YR YS YT YU un1 shOk eqL eq1 fillL putAt IHeap.load1 IHeap.loadL IHeap.storeL YV YW YX YY YZ B0 B1 B2 B3 B4 B5 B6 B7 B8 B9 Ba Bb Bc Bd Be Bf Bg Bh Bi Bj Bk Bl Bm Bn Bo Bp
set_option linter.unusedSimpArgs false
set_option linter.unusedVariables false
open Go

theorem count_keep (P : Pro) (v : VoteD) : (P.count v).n = P.n ∧ (P.count v).me = P.me ∧ (P.count v).does = P.does ∧ (P.count v).fr = P.fr ∧ (P.count v).who = P.who ∧ (P.count v).ba = P.ba ∧ (P.count v).bn = P.bn ∧ (P.count v).filled = P.filled := by
  unfold Pro.count
  split
  · split <;> exact ⟨rfl, rfl, rfl, rfl, rfl, rfl, rfl, rfl⟩
  · exact ⟨rfl, rfl, rfl, rfl, rfl, rfl, rfl, rfl⟩
theorem counts_keep : ∀ (l : List VoteD) (P : Pro), (l.foldl Pro.count P).n = P.n ∧ (l.foldl Pro.count P).me = P.me ∧ (l.foldl Pro.count P).does = P.does ∧ (l.foldl Pro.count P).fr = P.fr ∧ (l.foldl Pro.count P).who = P.who ∧ (l.foldl Pro.count P).ba = P.ba ∧ (l.foldl Pro.count P).bn = P.bn ∧ (l.foldl Pro.count P).filled = P.filled
  | [], P => ⟨rfl, rfl, rfl, rfl, rfl, rfl, rfl, rfl⟩
  | v :: l, P => by
    obtain ⟨h1, h2, h3, h4, h5, h6, h7, h8⟩ := counts_keep l (P.count v)
    obtain ⟨k1, k2, k3, k4, k5, k6, k7, k8⟩ := count_keep P v
    exact ⟨h1.trans k1, h2.trans k2, h3.trans k3, h4.trans k4, h5.trans k5, h6.trans k6, h7.trans k7, h8.trans k8⟩
theorem cntW_le (w : Nat → Bool) : ∀ k, cntW w k ≤ k
  | 0 => Nat.le_refl _
  | k + 1 => by have := cntW_le w k; simp only [cntW]; split <;> omega

section
variable (c : Ctx) (hA : HasBalA c) (hB : HasBalB c) (hD : HasBalD c) (hc : HasProp c) (hT : ProT c) {H : IHeap} {K : Value → IHeap → Prop} {B : Nat → Prop} {p : Nat} {P : Pro}

include hA hB hc hT in
theorem PPromise_ok {fr a n : Int} {u : Value} {l : List VoteD} {D : Nat → Prop} (h : IsP B H p P) (hfr : 0 ≤ P.fr) (hn7 : P.n ≤ 7) (hu : SlD D H 4 u (l.map rowV)) (hDB : ∀ b, D b → ¬ B b) (hl : l.length ≤ 1000000)
    (hK : ∀ H', Fr B H H' → IsP B H' p (P.promise fr a n l).1 → K (.bool (P.promise fr a n l).2) H') :
    c.C (c.F n_proposer_Proposer_Promise) [.pointer (some ⟨p, 0, none⟩), .int .i64 fr, vB a n, u] H K := by
  refine c.enter hc.proposer_Proposer_Promise rfl ?_
  obtain ⟨mv, g, hrep⟩ := h.rep
  have hp := h.lt p h.own
  have e1 : ¬ p = H.next := by omega
  obtain ⟨H0, hH0⟩ : ∃ X : IHeap, X = H.alloc (.cells [.int .i64 a, .int .i64 n] false) := ⟨_, rfl⟩
  have k0 : H.le H0 := by rw [hH0]; exact H.le_alloc _
  have n0 : H0.next = H.next + 1 := by rw [hH0]; rfl
  have b0 : H0.get H.next = some (.cells [.int .i64 a, .int .i64 n] false) := by rw [hH0, YV, if_pos rfl]
  have g0 := (k0.get p hp).trans g
  have bad : (P.does ≠ 1 ∨ fr < 0 ∨ P.n ≤ fr ∨ ¬ (a = P.ba ∧ n = P.bn) ∨ P.who fr.toNat = true) → K (.bool false) H0 := by
    intro hb
    have : P.promise fr a n l = (P, false) := by unfold Pro.promise; rw [if_pos hb]
    rw [this] at hK
    exact hK H0 (k0.fr B) (h.le k0)
  by_cases h1 : P.does = 1
  · by_cases h2 : fr < 0
    · simp -implicitDefEqProofs [c_proposer_Proposer_Promise, vB, nilOf, ← hH0, g0, cP0, cP1, cP2, cP4, cP5, cP6, cP7, cP15, cQ0, cQ1, cQ4, cQ5, cQ6, cQ7, cQ15, cPlen, tP2, tP4, tP6, tP7, h1, h2]
      exact bad (.inr (.inl h2))
    · by_cases h3 : P.n ≤ fr
      · simp -implicitDefEqProofs [c_proposer_Proposer_Promise, vB, nilOf, ← hH0, g0, cP0, cP1, cP2, cP4, cP5, cP6, cP7, cP15, cQ0, cQ1, cQ4, cQ5, cQ6, cQ7, cQ15, cPlen, tP2, tP4, tP6, tP7, h1, h2, h3]
        exact bad (.inr (.inr (.inl h3)))
      · by_cases h4 : a = P.ba ∧ n = P.bn
        · obtain ⟨rfl, rfl⟩ := h4
          have h2' : 0 ≤ fr := by omega
          obtain ⟨i, rfl⟩ : ∃ i : Nat, fr = i := ⟨fr.toNat, by omega⟩
          have hi7 : i < 7 := by omega
          have hi7' : (i : Int) < 7 := by omega
          have q1 := who_at P mv i hi7
          have hi16 : 8 + i < 16 := by omega
          by_cases h5 : P.who i = true
          · rw [h5] at q1
            have q1' : ∀ hh, (cellsP P mv)[8 + i]'hh = .bool true := fun hh => by rw [List.getElem?_eq_getElem hh] at q1; exact Option.some.inj q1
            simp -implicitDefEqProofs [c_proposer_Proposer_Promise, vB, nilOf, ← hH0, g0, b0, cP0, cP1, cP2, cP4, cP5, cP6, cP7, cP15, cQ0, cQ1, cQ4, cQ5, cQ6, cQ7, cQ15, cPlen, tP2, tP4, tP6, tP7, h1, h2, h3, q1, q1', hi7, hi7', hi16, h2']
            exact bad (.inr (.inr (.inr (.inr (by simpa using h5)))))
          · have h5f : P.who i = false := by simpa using h5
            rw [h5f] at q1
            have q1' : ∀ hh, (cellsP P mv)[8 + i]'hh = .bool false := fun hh => by rw [List.getElem?_eq_getElem hh] at q1; exact Option.some.inj q1
            have hi15 : 8 + i ≤ 15 := by omega
            have tW : List.take (8 + i) (cellsP P mv) ++ .bool true :: List.drop (8 + i + 1) (cellsP P mv) = cellsP (P.setWho i) mv := by
              have := who_put P mv i hi7
              simpa [putAt] using this
            obtain ⟨PW, hPW⟩ : ∃ PW, PW = P.setWho i := ⟨_, rfl⟩
            obtain ⟨H1, hH1⟩ : ∃ X : IHeap, X = H0.set p (.cells (cellsP PW mv) false) := ⟨_, rfl⟩
            have f1 : Fr B H H1 := by rw [hH1]; exact (k0.fr B).set (.inl h.own) _
            have i1 : IsP B H1 p PW := h.put f1.next (fun mv' g' => by
              have : mv' = mv := by simpa [g', cellsP] using g
              subst this
              rw [hH1, YW, if_pos rfl]) (fun b hb hne => by rw [hH1, YW, if_neg hne]; exact k0.get b hb) (by rw [hPW]; rfl) (.inl (by rw [hPW]; rfl))
            rw [← hPW] at tW
            have hpr : P.promise i P.ba P.bn l = if (cntW PW.who 7 : Int) < quorumI P.n then (l.foldl Pro.count PW, false) else ((l.foldl Pro.count PW).setDoes 2, true) := by
              unfold Pro.promise
              rw [if_neg (by simp [h1, h3, h5f]), hPW]
              rfl
            rw [hpr] at hK
            have dW : PW.does ≠ 0 := by rw [hPW]; show P.does ≠ 0; omega
            have fW : 0 ≤ PW.fr := by rw [hPW]; exact hfr
            obtain ⟨ua, ucap, rfl, _⟩ := id hu.sl
            rw [List.length_map] at hu ⊢
            simp -implicitDefEqProofs [c_proposer_Proposer_Promise, vB, nilOf, ← hH0, g0, b0, cP0, cP1, cP2, cP4, cP5, cP6, cP7, cP15, cQ0, cQ1, cQ4, cQ5, cQ6, cQ7, cQ15, cPlen, tP2, tP4, tP6, tP7, h1, h2, h3, q1, q1', hi7, hi7', hi16, h2', hi15, tW, ← hH1]
            refine loop_nat c.mono (fun k T H' => ∃ j : Nat, j ≤ l.length ∧ k = l.length - j ∧ T 0 = .pointer (some ⟨p, 0, none⟩) ∧ T 56 = .slice ua l.length ucap ∧ T 57 = .int .i64 l.length ∧ T 58 = .int .i64 j ∧ Fr B H H' ∧ IsP B H' p ((l.take j).foldl Pro.count PW)) l.length ?_ ?_
            · refine ⟨0, by omega, rfl, ?_⟩
              simp -implicitDefEqProofs []
              exact ⟨f1, i1⟩
            · rintro k T H' ⟨j, hj, rfl, t0, t56, t57, t58, fH, iH⟩
              by_cases hjl : j < l.length
              · have hjl' : (j : Int) < (l.length : Int) := by omega
                have hx : l[j]? = some l[j] := List.getElem?_eq_getElem hjl
                obtain ⟨v, hv⟩ : ∃ v, v = l[j] := ⟨_, rfl⟩
                rw [← hv] at hx
                have hu' := hu.fr fH hDB
                obtain ⟨b, o, cp, cs, ro, ea, hb, hget, hrl, hrow, hbd⟩ := hu'.sl.at (i := j) (r := rowV v) (by simp [hx])
                rw [List.length_map] at ea
                simp only [Value.slice.injEq] at ea
                obtain ⟨rfl, -, rfl⟩ := ea
                simp only [rowV] at hrow
                have wj : IntKind.i64.wrap ((j : Int) + 1) = (j : Int) + 1 := wrap64 (by omega) (by omega)
                obtain ⟨H2, hH2⟩ : ∃ X : IHeap, X = (H'.alloc (.cells [.int .i64 0, .int .i64 0, .int .i64 0, .string ⟨#[]⟩] false)).set H'.next (.cells [.int .i64 v.slot, .int .i64 v.a, .int .i64 v.n, .string v.val] false) := ⟨_, rfl⟩
                have k2 : H'.le H2 := by rw [hH2]; exact (H'.le_alloc _).set (Nat.le_refl _) _
                have b2 : H2.get H'.next = some (.cells [.int .i64 v.slot, .int .i64 v.a, .int .i64 v.n, .string v.val] false) := by rw [hH2, YW, if_pos rfl]
                simp -implicitDefEqProofs [t0, t56, t57, t58, hjl, hjl', hget, hrow, hbd, ← hH2, b2]
                have hkp := counts_keep (l.take j) PW
                refine call_of (Pcount_ok c hA hc hT (v := v) (iH.le k2) (by rw [hkp.2.2.1]; exact dW) (by rw [hkp.2.2.2.1]; exact fW) fun H3 f3 i3 => ?_)
                simp -implicitDefEqProofs [t0, t56, t57, t58, wj]
                refine ⟨l.length - (j + 1), by omega, j + 1, by omega, rfl, rfl, fH.trans (k2.trans_fr f3) (fun b hb => .inl hb), ?_⟩
                rw [List.take_add_one, hx, List.foldl_append]
                exact i3
              · have hjl' : ¬ (j : Int) < (l.length : Int) := by omega
                have hje : j = l.length := by omega
                subst hje
                rw [List.take_length] at iH
                have hkp := counts_keep l PW
                obtain ⟨PF, hPF⟩ : ∃ PF, PF = l.foldl Pro.count PW := ⟨_, rfl⟩
                rw [← hPF] at iH hK hkp
                obtain ⟨mv2, g2, hrep2⟩ := iH.rep
                have s7 : List.take 7 (List.drop 8 (cellsP PF mv2)) = who7 PF.who := rfl
                simp -implicitDefEqProofs [t0, t56, t57, t58, hjl, hjl', g2, cP0, cP1, cP2, cP4, cP5, cP6, cP7, cP15, cQ0, cQ1, cQ4, cQ5, cQ6, cQ7, cQ15, cPlen, tP2, tP4, tP6, tP7, s7]
                refine loop_nat c.mono (fun k T H2 => ∃ j : Nat, j ≤ 7 ∧ k = 7 - j ∧ T 0 = .pointer (some ⟨p, 0, none⟩) ∧ T 69 = .agg (who7 PF.who).toArray ∧ T 70 = .int .i64 j ∧ T 11 = .int .i64 (cntW PW.who j : Nat) ∧ H2 = H') 7 ?_ ?_
                · refine ⟨0, by omega, rfl, ?_⟩
                  simp -implicitDefEqProofs [t0]
                  rfl
                · rintro k T2 H2 ⟨j, hj, rfl, t0, t69, t70, t11, rfl⟩
                  have hcle := cntW_le PW.who j
                  have wj : IntKind.i64.wrap ((j : Int) + 1) = (j : Int) + 1 := wrap64 (by omega) (by omega)
                  have wc : IntKind.i64.wrap ((cntW PW.who j : Int) + 1) = (cntW PW.who j : Int) + 1 := wrap64 (by omega) (by omega)
                  by_cases hj7 : j < 7
                  · have hj7' : (j : Int) < 7 := by omega
                    have hg := who_get PF.who j hj7
                    cases hw : PF.who j with
                    | true =>
                      rw [hw] at hg
                      simp -implicitDefEqProofs [t0, t69, t70, t11, hj7, hj7', hg, wj, wc]
                      refine ⟨7 - (j + 1), by omega, j + 1, by omega, rfl, rfl, ?_⟩
                      simp only [cntW, ← hkp.2.2.2.2.1, hw]
                      rfl
                    | false =>
                      rw [hw] at hg
                      simp -implicitDefEqProofs [t0, t69, t70, t11, hj7, hj7', hg, wj]
                      refine ⟨7 - (j + 1), by omega, j + 1, by omega, rfl, rfl, ?_⟩
                      simp only [cntW, ← hkp.2.2.2.2.1, hw]
                      rfl
                  · have hj7' : ¬ (j : Int) < 7 := by omega
                    have hje : j = 7 := by omega
                    subst hje
                    simp -implicitDefEqProofs [t0, t69, t70, t11, g2, cP0, cP1, cP2, cP4, cP5, cP6, cP7, cP15, cQ0, cQ1, cQ4, cQ5, cQ6, cQ7, cQ15, cPlen, tP2, tP4, tP6, tP7]
                    refine call_of (Quorum_ok c hB ?_)
                    have hnn : PF.n = P.n := by rw [hkp.1, hPW]; rfl
                    rw [hnn]
                    by_cases hq : (cntW PW.who 7 : Int) < quorumI P.n
                    · rw [if_pos hq] at hK
                      simp -implicitDefEqProofs [t0, t11, hq]
                      exact hK _ fH iH
                    · rw [if_neg hq] at hK
                      simp -implicitDefEqProofs [t0, t11, hq, g2, cP0, cP1, cP2, cP4, cP5, cP6, cP7, cP15, cQ0, cQ1, cQ4, cQ5, cQ6, cQ7, cQ15, cPlen, tP2, tP4, tP6, tP7]
                      refine hK _ (fH.set (.inl h.own) _) ?_
                      have hm : ∃ r, mv2 = .map (some r) ∧ B r ∧ IsMap H2 r kI vV PF.best := by
                        rcases hrep2 with ⟨_, _, hz⟩ | hm
                        · exact absurd hz (by rw [hkp.2.2.1]; exact dW)
                        · exact hm
                      obtain ⟨r, rfl, hr, hm⟩ := hm
                      refine ⟨iH.lt, h.own, .map (some r), by rw [YW, if_pos rfl], .inr ⟨r, rfl, hr, hm.same (Nat.le_refl _) ?_⟩⟩
                      rw [YW, if_neg (fun e => hm.ne_cells g2 e.symm)]
        · have hb4 : P.promise fr a n l = (P, false) := by unfold Pro.promise; rw [if_pos (.inr (.inr (.inr (.inl h4))))]
          by_cases h4a : a = P.ba
          · subst h4a
            have h4b : ¬ n = P.bn := fun e => h4 ⟨rfl, e⟩
            simp -implicitDefEqProofs [c_proposer_Proposer_Promise, vB, nilOf, ← hH0, g0, b0, cP0, cP1, cP2, cP4, cP5, cP6, cP7, cP15, cQ0, cQ1, cQ4, cQ5, cQ6, cQ7, cQ15, cPlen, tP2, tP4, tP6, tP7, h1, h2, h3, h4b]
            exact bad (.inr (.inr (.inr (.inl h4))))
          · simp -implicitDefEqProofs [c_proposer_Proposer_Promise, vB, nilOf, ← hH0, g0, b0, cP0, cP1, cP2, cP4, cP5, cP6, cP7, cP15, cQ0, cQ1, cQ4, cQ5, cQ6, cQ7, cQ15, cPlen, tP2, tP4, tP6, tP7, h1, h2, h3, h4a]
            exact bad (.inr (.inr (.inr (.inl h4))))
  · simp -implicitDefEqProofs [c_proposer_Proposer_Promise, vB, nilOf, ← hH0, g0, cP0, cP1, cP2, cP4, cP5, cP6, cP7, cP15, cQ0, cQ1, cQ4, cQ5, cQ6, cQ7, cQ15, cPlen, tP2, tP4, tP6, tP7, h1]
    exact bad (.inl h1)
end
end Go.Proofs.YtpbbjfighohokaaI
namespace Go.Proofs.YtpbbjfighohokaaI
attribute [local simp] J0 J1 J2 J3 J4 J5 J6 J7 J8 J9 Ja Jb Jc Jd Je Jf Jg Jh Ji Jj Jk Jl Jm Jn Jo Jp Jq Jr Js Jt Ju Jv Jw Jx Jy Jz JA JB JC JD JE JF JG JH JI JJ JK JL JM JN JO JP JQ JR JS stillI IOp.kind JT JU JV JW JX JY JZ Y0 Y1 Y2 Y3 Y4 Y5 Y6 Y7 Y8 Y9 Ya Yb Yc Yd Ye Yf Yg Yh Yi Yj Yk Yl Ym Yn Yo Yp Yq ial Yr Ys Yt Yu Yv Yw Yx Yy ires iresL ires1 Yz YA YB YC YD YE bin2 YF YG YH YI YJ YK YL YM YN YO YP YQ YR YS YT YU un1 shOk eqL eq1 fillL putAt IHeap.load1 IHeap.loadL IHeap.storeL YV YW YX YY YZ B0 B1 B2 B3 B4 B5 B6 B7 B8 B9 Ba Bb Bc Bd Be Bf Bg Bh Bi Bj Bk Bl Bm Bn Bo Bp
set_option linter.unusedSimpArgs false
set_option linter.unusedVariables false
open Go

theorem filledL_snoc (P : Pro) : ∀ (k : Nat) (s : Int), filledL P s (k + 1) = filledL P s k ++ [⟨s + k, P.ba, P.bn, valOf (P.best (s + k))⟩]
  | 0, s => by simp [filledL]
  | k + 1, s => by
    have ih := filledL_snoc P k (s + 1)
    rw [filledL, ih, filledL, List.cons_append]
    rw [show s + 1 + (k : Int) = s + ((k + 1 : Nat) : Int) by omega]
theorem filledL_len (P : Pro) : ∀ (k : Nat) (s : Int), (filledL P s k).length = k
  | 0, _ => rfl
  | k + 1, s => by rw [filledL, List.length_cons, filledL_len P k]
theorem born_inj : ∀ {es : List MapEntry} {x y : MapEntry}, (es.map (·.born)).Nodup → x ∈ es → y ∈ es → x.born = y.born → x = y
  | [], _, _, _, h, _, _ => by simp at h
  | z :: es, x, y, hn, hx, hy, e => by
    simp only [List.map_cons, List.nodup_cons] at hn
    rcases List.mem_cons.1 hx with h1 | h1
    · rcases List.mem_cons.1 hy with h2 | h2
      · rw [h1, h2]
      · subst h1; exact (hn.1 (List.mem_map.2 ⟨y, h2, e.symm⟩)).elim
    · rcases List.mem_cons.1 hy with h2 | h2
      · subst h2; exact (hn.1 (List.mem_map.2 ⟨x, h1, e⟩)).elim
      · exact born_inj hn.2 h1 h2 e
theorem IsP.keep {B : Nat → Prop} {H H' : IHeap} {p N : Nat} {P : Pro} (h : IsP B H p P) (k : IHeap.keep N H H') (hN : ∀ b, B b → b < N) : IsP B H' p P := by
  obtain ⟨h1, h2, mv, h3, h4⟩ := h
  refine ⟨fun b hb => Nat.lt_of_lt_of_le (h1 b hb) k.next, h2, mv, (k.get p (hN p h2)).trans h3, h4.imp id ?_⟩
  rintro ⟨r, e, hr, hm⟩
  exact ⟨r, e, hr, hm.same k.next (k.get r (hN r hr))⟩

section
variable (c : Ctx) (hA : HasBalA c) (hB : HasBalB c) (hD : HasBalD c) (hc : HasProp c) (hT : ProT c) {H : IHeap} {K : Value → IHeap → Prop} {B : Nat → Prop} {p : Nat} {P : Pro}

include hc hT in
theorem PFill_ok (h : IsP B H p P) (ho : P.ok) (h0 : (P.does ≠ 2 ∨ P.filled = true) → K (.slice none 0 0) H)
    (hK : P.does = 2 → P.filled = false → ∀ e, IsEnd P e → ∀ v' H', Fr B H H' → IsP B H' p (P.setFilled true) → Grow H' H.next 4 v' ((P.fill e).map rowV) → K v' H') :
    c.C (c.F n_proposer_Proposer_Fill) [.pointer (some ⟨p, 0, none⟩)] H K := by
  refine c.enter hc.proposer_Proposer_Fill rfl ?_
  have hp := h.lt p h.own
  simp -implicitDefEqProofs [c_proposer_Proposer_Fill]
  refine call_of (PLeads_ok c hc h ?_)
  by_cases h1 : P.does = 2
  · obtain ⟨r, g, hr, hm, hne⟩ := h.getNext (by omega)
    have hrl := h.lt r hr
    cases h2 : P.filled with
    | true =>
      simp -implicitDefEqProofs [h1, g, cP0, cP1, cP2, cP4, cP5, cP6, cP7, cP15, cQ0, cQ1, cQ4, cQ5, cQ6, cQ7, cQ15, cPlen, tP2, tP4, tP6, tP7, h2]
      exact h0 (.inr h2)
    | false =>
      obtain ⟨o1, o2, o3, o4, o5, o6, o7, o8⟩ := ho
      obtain ⟨PF, hPF⟩ : ∃ PF, PF = P.setFilled true := ⟨_, rfl⟩
      obtain ⟨H1, hH1⟩ : ∃ X : IHeap, X = H.set p (.cells (cellsP PF (.map (some r))) false) := ⟨_, rfl⟩
      have n1 : H1.next = H.next := by rw [hH1]; rfl
      have g1 : H1.get p = some (.cells (cellsP PF (.map (some r))) false) := by rw [hH1, YW, if_pos rfl]
      have m1 : IsMap H1 r kI vV P.best := hm.same (by omega) (by rw [hH1, YW, if_neg (fun e => hne e.symm)])
      have f1 : Fr B H H1 := by rw [hH1]; exact (Fr.refl B H).set (.inl h.own) _
      obtain ⟨es, clock, gr, hb, hes1, hes2⟩ := m1.entries
      have frF : PF.fr = P.fr := by rw [hPF]; rfl
      simp -implicitDefEqProofs [h1, g, cP0, cP1, cP2, cP4, cP5, cP6, cP7, cP15, cQ0, cQ1, cQ4, cQ5, cQ6, cQ7, cQ15, cPlen, tP2, tP4, tP6, tP7, h2, ← hPF, ← hH1, g1, rangeI, gr, frF]
      refine loop_nat c.mono (fun k T H' => ∃ (seen : List Nat) (e : Int), k = leftM es seen ∧ T 0 = .pointer (some ⟨p, 0, none⟩) ∧ T 27 = .pointer (some ⟨H1.next, 0, none⟩) ∧ T 3 = .int .i64 e ∧
        H'.next = H1.next + 1 ∧ (∀ b, b < H1.next → H'.get b = H1.get b) ∧ H'.get H1.next = some (.iter (some r) clock seen clock) ∧
        P.fr ≤ e ∧ e ≤ P.next ∧ (∀ x ∈ es, x.born ∈ seen → ∀ s, x.key = kI s → s < e) ∧ (e = P.fr ∨ ∃ v, P.best (e - 1) = some v)) (leftM es []) ?_ ?_
      · refine ⟨[], P.fr, rfl, ?_⟩
        simp -implicitDefEqProofs []
        exact ⟨fun b hb hbn => by omega, o5⟩
      · rintro k T H' ⟨seen, e, rfl, t0, t27, t3, n', hold, git, e1, e2, e3, e4⟩
        have gr' := (hold r (by omega)).trans gr
        have g' := (hold p (by omega)).trans g1
        simp -implicitDefEqProofs [t0, t27, t3]
        refine next_of git gr' hb (fun hall => ?_) (fun x hx hxs => ?_)
        · have hend : IsEnd P e := by
            refine ⟨e1, fun s v hs => ?_, e4⟩
            obtain ⟨x, hx, hk, _⟩ := hes2 s v hs
            exact e3 x hx (hall x hx) s hk
          obtain ⟨N, hN⟩ : ∃ N : Nat, N = (e - P.fr).toNat := ⟨_, rfl⟩
          have hN' : e = P.fr + N := by omega
          have kH : IHeap.keep H1.next H1 H' := ⟨by omega, hold⟩
          have iF : IsP B H1 p PF := ⟨fun b hb => by have := h.lt b hb; omega, h.own, _, g1, .inr ⟨r, rfl, hr, by rw [hPF]; exact m1⟩⟩
          have bF : PF.best = P.best := by rw [hPF]; rfl
          have aF : PF.ba = P.ba ∧ PF.bn = P.bn := by rw [hPF]; exact ⟨rfl, rfl⟩
          simp -implicitDefEqProofs [t0, t27, t3, g', cP0, cP1, cP2, cP4, cP5, cP6, cP7, cP15, cQ0, cQ1, cQ4, cQ5, cQ6, cQ7, cQ15, cPlen, tP2, tP4, tP6, tP7, frF]
          refine loop_nat c.mono (fun k T H2 => ∃ j : Nat, j ≤ N ∧ k = N - j ∧ T 0 = .pointer (some ⟨p, 0, none⟩) ∧ T 3 = .int .i64 e ∧ T 6 = .int .i64 (P.fr + j) ∧ IHeap.keep H1.next H1 H2 ∧ Grow H2 H.next 4 (T 5) ((filledL P P.fr j).map rowV)) N ?_ ?_
          · refine ⟨0, by omega, rfl, ?_⟩
            simp -implicitDefEqProofs [t0, t3]
            exact ⟨kH, Grow.nil _ _ _⟩
          · rintro k T2 H2 ⟨j, hj, rfl, t0, t3, t6, kH2, gr2⟩
            by_cases hjN : j < N
            · have hlt : P.fr + (j : Int) < e := by omega
              have ws : IntKind.i64.wrap (P.fr + (j : Int) + 1) = P.fr + (j : Int) + 1 := wrap64 (by omega) (by omega)
              have i2 := iF.keep kH2 (fun b hb => by have := h.lt b hb; omega)
              have g2 := (kH2.get p (by omega)).trans g1
              have m2 : IsMap H2 r kI vV P.best := m1.same kH2.next (kH2.get r (by omega))
              have lk := m2.look (P := c.P) (keyOf_int hT.key) (P.fr + j) (.agg #[.int .i64 0, .int .i64 0, .int .i64 0, .string ⟨#[]⟩]) false
              simp only [kI] at lk
              obtain ⟨q, hq⟩ : ∃ q, q = P.best (P.fr + (j : Int)) := ⟨_, rfl⟩
              have hval : ∃ z, (match P.best (P.fr + (j : Int)) with | some a => vV a | none => Value.agg #[.int .i64 0, .int .i64 0, .int .i64 0, .string ⟨#[]⟩]) = Value.agg z ∧ z.toList[3]? = some (.string (valOf (P.best (P.fr + (j : Int))))) := by
                cases P.best (P.fr + (j : Int)) with
                | none => exact ⟨_, rfl, rfl⟩
                | some a => exact ⟨_, rfl, rfl⟩
              obtain ⟨z, hz1, hz2⟩ := hval
              have lk' : lookR c.P H2 (c.Ty 2) (.agg #[.int .i64 0, .int .i64 0, .int .i64 0, .string ⟨#[]⟩]) false (.map (some r)) (.int .i64 (P.fr + (j : Int))) = some (.agg z) := by
                rw [lk, ← hz1]
                cases P.best (P.fr + (j : Int)) <;> rfl
              have hz2' : z[3]? = some (.string (valOf (P.best (P.fr + (j : Int))))) := by simpa using hz2
              simp -implicitDefEqProofs [t0, t3, t6, hlt, g2, cP0, cP1, cP2, cP4, cP5, cP6, cP7, cP15, cQ0, cQ1, cQ4, cQ5, cQ6, cQ7, cQ15, cPlen, tP2, tP4, tP6, tP7, lk', hz2']
              refine call_of (Pvote_ok c hc i2 fun H3 k3 => ?_)
              obtain ⟨V, hV⟩ : ∃ V : VoteD, V = ⟨P.fr + (j : Int), P.ba, P.bn, valOf (P.best (P.fr + (j : Int)))⟩ := ⟨_, rfl⟩
              rw [aF.1, aF.2, ← hV]
              obtain ⟨H4, hH4⟩ : ∃ X : IHeap, X = H3.alloc (.cells (rowV V) false) := ⟨_, rfl⟩
              have k4 : H3.le H4 := by rw [hH4]; exact H3.le_alloc _
              have b4 : H4.get H3.next = some (.cells (rowV V) false) := by rw [hH4, YV, if_pos rfl]
              have n2 := kH2.next
              have n3 := k3.next
              have hlen := filledL_len P j P.fr
              have hH4' : H3.alloc (.cells [.int .i64 V.slot, .int .i64 V.a, .int .i64 V.n, .string V.val] false) = H4 := by rw [hH4]; rfl
              obtain ⟨v5, H5, ap, gr5, kp5⟩ := (gr2.le (k3.trans k4)).append1 (bytes := 40) (new := rowV V) (by have := k4.next; omega) (by omega) (by omega) (by rw [List.length_map]; omega) (by rw [List.length_map]; omega) rfl rfl
              simp only [rowV] at b4 ap
              simp -implicitDefEqProofs [t0, t3, t6, vV, hH4', lenOfI, firstI, b4, ap, ws]
              refine ⟨N - (j + 1), by omega, j + 1, by omega, rfl, by omega, ?_, ?_⟩
              · exact (kH2.trans ((k3.trans k4).keep (by omega))).trans (n1 ▸ kp5)
              · rw [filledL_snoc, List.map_append]
                exact hV ▸ gr5
            · have hge : ¬ P.fr + (j : Int) < e := by omega
              have hje : j = N := by omega
              simp -implicitDefEqProofs [t0, t3, t6, hge]
              refine hK h1 h2 e hend _ _ (f1.trans (B := B) ((kH2.upd (S := []) (by omega)).fr (B := B) (by simp)) (fun b hb => .inl hb)) (hPF ▸ iF.keep kH2 (fun b hb => by have := h.lt b hb; omega)) ?_
              unfold Pro.fill
              rw [← hN, ← hje]
              exact gr2
        · obtain ⟨s, a, hk, hv, hbs⟩ := hes1 x hx
          obtain ⟨q1, q2, q3, _, _⟩ := o8 s a hbs
          have ws : IntKind.i64.wrap (s + 1) = s + 1 := wrap64 (by omega) (by omega)
          simp -implicitDefEqProofs [t0, t27, t3, -J5]
          simp -implicitDefEqProofs only [J5]
          simp -implicitDefEqProofs [t0, t27, t3, -J5]
          refine entry_of (since := clock) (seen := seen) (e := x) (by rw [YW, if_pos rfl]) (by rw [YW, if_neg (by omega)]; exact gr') hb hx ?_
          obtain ⟨e', he'⟩ : ∃ e', (if e < s + 1 then s + 1 else e) = e' := ⟨_, rfl⟩
          have hee : e ≤ e' ∧ s < e' ∧ (e' = e ∨ e' = s + 1) ∧ e' ≤ P.next := by rw [← he']; split <;> omega
          simp -implicitDefEqProofs [t0, t27, t3, hk, kI, ws, he']
          refine ⟨_, leftM_lt hx hxs, seen ++ [x.born], rfl, n', fun b hb' => ?_, rfl, by omega, by omega, fun y hy hys s' hs' => ?_, ?_⟩
          · rw [if_neg (by omega)]; exact hold b hb'
          · rcases List.mem_append.1 hys with hys | hys
            · have := e3 y hy hys s' hs'; omega
            · simp only [List.mem_singleton] at hys
              have := born_inj hb.1 hy hx hys
              subst this
              rw [hk] at hs'
              simp only [kI, Value.int.injEq, true_and] at hs'
              omega
          · rcases hee.2.2.1 with q | q
            · rw [q]; exact e4
            · exact .inr ⟨a, by rw [q, show s + 1 - 1 = s by omega]; exact hbs⟩
  · simp -implicitDefEqProofs [h1]
    exact h0 (.inl h1)
end
end Go.Proofs.YtpbbjfighohokaaI
namespace Go.Proofs.YtpbbjfighohokaaI
attribute [local simp] J0 J1 J2 J3 J4 J5 J6 J7 J8 J9 Ja Jb Jc Jd Je Jf Jg Jh Ji Jj Jk Jl Jm Jn Jo Jp Jq Jr Js Jt Ju Jv Jw Jx Jy Jz JA JB JC JD JE JF JG JH JI JJ JK JL JM JN JO JP JQ JR JS stillI IOp.kind JT JU JV JW JX JY JZ Y0 Y1 Y2 Y3 Y4 Y5 Y6 Y7 Y8 Y9 Ya Yb Yc Yd Ye Yf Yg Yh Yi Yj Yk Yl Ym Yn Yo Yp Yq ial Yr Ys Yt Yu Yv Yw Yx Yy ires iresL ires1 Yz YA YB YC YD YE bin2 YF YG YH YI YJ YK YL YM YN YO YP YQ YR YS YT YU un1 shOk eqL eq1 fillL putAt IHeap.load1 IHeap.loadL IHeap.storeL YV YW YX YY YZ B0 B1 B2 B3 B4 B5 B6 B7 B8 B9 Ba Bb Bc Bd Be Bf Bg Bh Bi Bj Bk Bl Bm Bn Bo Bp
set_option linter.unusedSimpArgs false
set_option linter.unusedVariables false
open Go

theorem ok_new {n me : Int} (h1 : quorumI n ≠ 0) (h2 : 0 ≤ me) (h3 : me < n) : (Pro.new n me).ok :=
  ⟨h1, h2, h3, Int.le_refl _, Int.le_refl _, by show (0 : Int) ≤ 1024; omega, ⟨by show (0 : Int) ≤ 0; omega, by show (0 : Int) ≤ 2; omega⟩, fun _ _ h => by cases h⟩
theorem Pro.ok.lead {P : Pro} (h : P.ok) (a n fr : Int) : (P.lead a n fr).1.ok := by
  unfold Pro.lead
  split
  · exact h
  · rename_i hc
    split
    · exact h
    · simp only [not_or] at hc
      obtain ⟨h1, h2, h3, _⟩ := h
      exact ⟨h1, h2, h3, by show 0 ≤ fr; omega, Int.le_refl _, by show fr ≤ 1024; omega, ⟨by show (0 : Int) ≤ 1; omega, by show (1 : Int) ≤ 2; omega⟩, fun _ _ h => by cases h⟩
theorem Pro.takes_iff {P : Pro} {v : VoteD} : P.takes v = true ↔ P.fr ≤ v.slot ∧ v.slot < 1024 ∧ validB v.a v.n = true ∧ v.val.size ≤ 4096 := by
  unfold Pro.takes
  simp only [Bool.and_eq_true, decide_eq_true_eq]
theorem Pro.ok.count {P : Pro} (h : P.ok) (v : VoteD) : (P.count v).ok := by
  unfold Pro.count
  cases ht : P.takes v with
  | false => exact h
  | true =>
    obtain ⟨t1, t2, t3, t4⟩ := Pro.takes_iff.1 ht
    obtain ⟨h1, h2, h3, h4, h5, h6, h7, h8⟩ := h
    obtain ⟨nx, hnx⟩ : ∃ nx, nx = (if v.slot + 1 > P.next then v.slot + 1 else P.next) := ⟨_, rfl⟩
    have q : P.next ≤ nx ∧ v.slot < nx ∧ nx ≤ 1024 := by rw [hnx]; split <;> omega
    rw [← hnx, if_pos rfl]
    split
    · refine ⟨h1, h2, h3, h4, by show P.fr ≤ nx; omega, q.2.2, h7, fun s w hw => ?_⟩
      have hw' : (if v.slot = s then some v else P.best s) = some w := hw
      split at hw'
      · rename_i e
        injection hw' with hw'
        subst hw'
        exact ⟨e, by show P.fr ≤ s; omega, by show s < nx; omega, t3, t4⟩
      · obtain ⟨a1, a2, a3, a4⟩ := h8 s w hw'
        exact ⟨a1, a2, by show s < nx; omega, a4⟩
    · refine ⟨h1, h2, h3, h4, by show P.fr ≤ nx; omega, q.2.2, h7, fun s w hw => ?_⟩
      obtain ⟨a1, a2, a3, a4⟩ := h8 s w hw
      exact ⟨a1, a2, by show s < nx; omega, a4⟩
theorem ok_counts : ∀ (l : List VoteD) {P : Pro}, P.ok → (l.foldl Pro.count P).ok
  | [], _, h => h
  | v :: l, _, h => ok_counts l (h.count v)
theorem Pro.ok.setWho {P : Pro} (h : P.ok) (i : Nat) : (P.setWho i).ok := h
theorem Pro.ok.setFilled {P : Pro} (h : P.ok) (b : Bool) : (P.setFilled b).ok := h
theorem Pro.ok.setDoes {P : Pro} (h : P.ok) {x : Int} (hx : 0 ≤ x ∧ x ≤ 2) : (P.setDoes x).ok := ⟨h.1, h.2.1, h.2.2.1, h.2.2.2.1, h.2.2.2.2.1, h.2.2.2.2.2.1, hx, h.2.2.2.2.2.2.2⟩
theorem Pro.ok.promise {P : Pro} (h : P.ok) (fr a n : Int) (l : List VoteD) : (P.promise fr a n l).1.ok := by
  unfold Pro.promise
  split
  · exact h
  · split
    · exact ok_counts l (h.setWho _)
    · exact (ok_counts l (h.setWho _)).setDoes ⟨by decide, by decide⟩
theorem Pro.ok.propose {P : Pro} (h : P.ok) (s : ByteArray) : (P.propose s).1.ok := by
  unfold Pro.propose
  split
  · exact h
  · split
    · exact h
    · split
      · exact h
      · obtain ⟨h1, h2, h3, h4, h5, h6, h7, h8⟩ := h
        refine ⟨h1, h2, h3, h4, by show P.fr ≤ P.next + 1; omega, by show P.next + 1 ≤ 1024; omega, h7, fun s w hw => ?_⟩
        obtain ⟨a1, a2, a3, a4⟩ := h8 s w hw
        exact ⟨a1, a2, by show s < P.next + 1; omega, a4⟩
theorem Pro.ok.step {P : Pro} (h : P.ok) (a n : Int) : (P.step a n).1.ok := by
  unfold Pro.step
  split
  · exact h
  · exact Pro.ok.setDoes (P := P.setBal a n) h ⟨by decide, by decide⟩

section
variable (c : Ctx) (hA : HasBalA c) (hB : HasBalB c) (hD : HasBalD c) (hc : HasProp c) (hT : ProT c) {H : IHeap} {K : Value → IHeap → Prop}
include hc

theorem PLead_none {a n fr : Int} (hK : ∀ H', H.le H' → K (.tuple #[vB 0 0, .int .i64 1]) H') : c.C (c.F n_proposer_Proposer_Lead) [.pointer none, vB a n, .int .i64 fr] H K := by
  refine c.enter hc.proposer_Proposer_Lead rfl ?_
  simp -implicitDefEqProofs [c_proposer_Proposer_Lead, vB, nilOf]
  refine hK _ ?_
  exact ((H.le_alloc _).alloc _).set (by omega) _
theorem PPropose_none {s : ByteArray} (hK : ∀ H', H.le H' → K (.tuple #[vV zeroVote, .int .i64 1]) H') : c.C (c.F n_proposer_Proposer_Propose) [.pointer none, .string s] H K := by
  refine c.enter hc.proposer_Proposer_Propose rfl ?_
  simp -implicitDefEqProofs [c_proposer_Proposer_Propose, nilOf]
  refine hK _ ?_
  exact (H.le_alloc _).set (by omega) _
theorem PPromise_none {fr a n : Int} {u : Value} (hK : ∀ H', H.le H' → K (.bool false) H') : c.C (c.F n_proposer_Proposer_Promise) [.pointer none, .int .i64 fr, vB a n, u] H K := by
  refine c.enter hc.proposer_Proposer_Promise rfl ?_
  simp -implicitDefEqProofs [c_proposer_Proposer_Promise, vB, nilOf]
  exact hK _ (H.le_alloc _)
theorem PFill_none (hK : K (.slice none 0 0) H) : c.C (c.F n_proposer_Proposer_Fill) [.pointer none] H K := by
  refine c.enter hc.proposer_Proposer_Fill rfl ?_
  simp -implicitDefEqProofs [c_proposer_Proposer_Fill]
  refine call_of (PLeads_none c hc ?_)
  simp -implicitDefEqProofs []
  exact hK
theorem PStep_none {a n : Int} (hK : ∀ H', H.le H' → K (.bool false) H') : c.C (c.F n_proposer_Proposer_Step) [.pointer none, vB a n] H K := by
  refine c.enter hc.proposer_Proposer_Step rfl ?_
  simp -implicitDefEqProofs [c_proposer_Proposer_Step, vB, nilOf]
  exact hK _ (H.le_alloc _)
end
end Go.Proofs.YtpbbjfighohokaaI
