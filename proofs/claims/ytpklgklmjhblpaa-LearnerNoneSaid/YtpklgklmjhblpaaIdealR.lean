/- A region that draws its order: one order shows them all (the whole region). -/
import Derived.Test.YtpklgklmjhblpaaIdealQ
namespace Go.Proofs.YtpklgklmjhblpaaI
set_option linter.unusedSimpArgs false
set_option linter.unusedVariables false
open Go

theorem nodup_len : ∀ (n : Nat) (l : List Nat), l.Nodup → (∀ i ∈ l, i < n) → l.length ≤ n
  | 0, l, _, h => by
    cases l with
    | nil => simp
    | cons a l => exact absurd (h a (by simp)) (by omega)
  | n + 1, l, hd, h => by
    have h1 : (l.erase n).length ≤ n := by
      refine nodup_len n (l.erase n) (hd.erase n) fun i hi => ?_
      have h2 := h i (List.mem_of_mem_erase hi)
      have h3 : i ≠ n := by
        rintro rfl
        exact (hd.mem_erase_iff.1 hi).1 rfl
      omega
    have h2 := List.length_erase (a := n) (l := l)
    split at h2 <;> omega

section
variable {P : Program} {C : CallT} {n : Nat} {ops : Array Oper} {xs : List IOper} {σ : List Nat}

theorem Region'.mem (h : Region' P n ops xs σ) {i : Nat} (hi : i < ops.size) : i ∈ σ := by
  by_cases hm : i ∈ σ
  · exact hm
  · have := nodup_len ops.size (i :: σ) (List.nodup_cons.2 ⟨hm, h.nodup⟩) (by
      intro j hj
      rcases List.mem_cons.1 hj with rfl | hj
      · exact hi
      · exact h.slt j hj)
    rw [List.length_cons, h.slen] at this
    omega

theorem Region'.of {ops : Array Oper} (hc : compOpers P n ops ops.toList = some xs) (h : drawOk ops xs (ancL ops.toList []) σ = true) : Region' P n ops xs σ := by
  obtain ⟨h1, h2⟩ := compOpers_get hc
  unfold drawOk at h
  simp only [Bool.and_eq_true, decide_eq_true_eq] at h
  obtain ⟨⟨⟨⟨⟨⟨hb, hl⟩, hnd⟩, hlt⟩, ho⟩, ht⟩, hw⟩ := h
  refine ⟨?_, by simpa using h1, hb, hl, hnd, fun i hi => by simpa using List.all_eq_true.1 hlt i hi, ho, ?_, ?_⟩
  · intro i o hi
    obtain ⟨x, hx, hco⟩ := h2 i o (by simpa using hi)
    exact ⟨x, hx, compOper_spec hco⟩
  · intro i j oi oj d hne hi hj hd
    have hil := (Array.getElem?_eq_some_iff.1 hi).1
    have hjl := (Array.getElem?_eq_some_iff.1 hj).1
    unfold okTmp at ht
    have h3 := List.all_eq_true.1 (List.all_eq_true.1 ht i (List.mem_range.2 hil)) j (List.mem_range.2 hjl)
    rw [hi, hj] at h3
    simp only [hd, Bool.or_eq_true, Bool.and_eq_true, beq_iff_eq, hne, false_or, bne_iff_ne, Bool.not_eq_true'] at h3
    refine ⟨h3.1, fun hr => ?_⟩
    rcases h3.2 with (h4 | h4) | h4
    · rw [List.contains_eq_mem] at h4
      simp at h4
      exact absurd hr h4
    · exact .inl h4
    · exact .inr h4
  · intro i o d hi hd hr
    unfold okOwn at hw
    have hm : o ∈ ops.toList := by
      have := Array.getElem?_eq_some_iff.1 hi
      obtain ⟨hil, rfl⟩ := this
      simp
    have h3 := List.all_eq_true.1 hw o hm
    simp only [hd, Bool.not_eq_true'] at h3
    rw [List.contains_eq_mem] at h3
    simp at h3
    exact h3 hr

variable {K : Env → IHeap → Prop} {T0 : Env} {R0 : Ren} {H0 : IHeap} {w0 : World}

theorem edgesBack_get : ∀ {os : List Oper} {k i : Nat} {o : Oper}, edgesBack os k = true → os[i]? = some o → ∀ e ∈ o.after.toList, Region.binds .any e = true → e.on < k + i
  | [], k, i, o, _, h => by simp at h
  | x :: os, k, i, o, hb, h => by
    simp only [edgesBack, Bool.and_eq_true] at hb
    cases i with
    | zero =>
      simp at h; subst h
      intro e he hbe
      have := List.all_eq_true.1 hb.1 e he
      simp only [hbe, Bool.not_true, Bool.false_or, decide_eq_true_eq] at this
      omega
    | succ i =>
      intro e he hbe
      have := edgesBack_get (k := k + 1) (i := i) hb.2 (by simpa using h) e he hbe
      omega

theorem draw_any (hC : CSim P C) (hR : Region' P n ops xs σ) {Q : Exit → Act → World → Prop}
    (hK : ∀ T' H' R' a' w', K T' H' → Sim R' H' w' → TRel n R' T' a'.tmps → a'.defers = [] → Ext R0 H0 w0 R' H' w' → Q .normal a' w') :
    ∀ (fuel : Nat) (listed : Array Bool) (pre rest : List Nat) (S : Nat → Prop) (rid : Nat → Nat) (T : Env) (H : IHeap) (R : Ren) (a : Act) (w : World),
      Inv P C n ops xs σ K T0 R0 H0 w0 pre rest S rid T H R a w → (∀ i r, rest = i :: r → actsAt xs i = true) → (∀ i, listed.getD i false = true ↔ S i) → listed.size = ops.size →
      (∀ l : List Nat, l.Nodup → (∀ i ∈ l, i < ops.size ∧ ¬ S i) → l.length ≤ fuel) → wpAny P .any ops Q fuel listed a w := by
  intro fuel
  induction fuel with
  | zero =>
    intro listed pre rest S rid T H R a w hI hhd hS hsz hf
    have hall : ∀ i, i < ops.size → S i := fun i hi => Classical.byContradiction fun hn => by
      have := hf [i] (by simp) (by simp [hi, hn])
      simp at this
    constructor
    · cases hrd : Region.ready .any ops listed with
      | nil => rfl
      | cons i l =>
        have : i ∈ Region.ready .any ops listed := by rw [hrd]; simp
        obtain ⟨h0, o, ho, _⟩ := mem_ready.1 this
        have hlt := (Array.getElem?_eq_some_iff.1 ho).1
        have := (hS i).2 (hall i hlt)
        have hi : i < listed.size := by omega
        simp [hi] at h0 this
        rw [h0] at this; cases this
    · have hrest : rest = [] := by
        cases rest with
        | nil => rfl
        | cons e r =>
          have := notin_pre hR hI.sched
          exact absurd (hI.sub e (hall e (hR.slt e (by rw [hI.sched]; simp)))) this
      subst hrest
      have hES : ES ops S T T0 = T := by
        funext d
        by_cases h : ∃ i, S i ∧ dstAt ops i = some d
        · rw [ES_pos h]
        · rw [ES_neg h]
          refine (hI.old d fun i hi hd => h ⟨i, ?_, hd⟩).symm
          obtain ⟨o, ho, _⟩ := dstAt_some hd
          exact hall i (Array.getElem?_eq_some_iff.1 ho).1
      have hrun := hI.run
      simp only [layI, iwpDraw] at hrun
      have ht := hI.tmps
      rw [hES] at ht
      exact hK T H R a w hrun hI.sim ht hI.defers hI.ext
  | succ fuel ih =>
    intro listed pre rest S rid T H R a w hI hhd hS hsz hf
    have hget : ∀ i, i < ops.size → (listed.getD i true = false ↔ ¬ S i) := by
      intro i hi
      have h1 := hS i
      have hi : i < listed.size := by omega
      simp [hi] at h1 ⊢
      rw [← h1]; simp
    constructor
    · intro hnil
      have hall : ∀ i, i < ops.size → S i := by
        intro i
        induction i using Nat.strongRecOn with
        | _ i ihi =>
          intro hi
          refine Classical.byContradiction fun hn => ?_
          have : i ∈ Region.ready .any ops listed := by
            rw [mem_ready]
            refine ⟨(hget i hi).2 hn, ops[i], by simp [hi], fun e he hb => ?_⟩
            have hlt := edgesBack_get hR.back (i := i) (o := ops[i]) (by simp [hi]) e (by simpa using he) hb
            exact (hS e.on).2 (ihi e.on (by omega) (by omega))
          rw [hnil] at this; simp at this
      have hrest : rest = [] := by
        cases rest with
        | nil => rfl
        | cons e r =>
          have := notin_pre hR hI.sched
          exact absurd (hI.sub e (hall e (hR.slt e (by rw [hI.sched]; simp)))) this
      subst hrest
      have hES : ES ops S T T0 = T := by
        funext d
        by_cases h : ∃ i, S i ∧ dstAt ops i = some d
        · rw [ES_pos h]
        · rw [ES_neg h]
          refine (hI.old d fun i hi hd => h ⟨i, ?_, hd⟩).symm
          obtain ⟨o, ho, _⟩ := dstAt_some hd
          exact hall i (Array.getElem?_eq_some_iff.1 ho).1
      have hrun := hI.run
      simp only [layI, iwpDraw] at hrun
      have ht := hI.tmps
      rw [hES] at ht
      exact hK T H R a w hrun hI.sim ht hI.defers hI.ext
    · intro i hi
      obtain ⟨h0, o, ho, hed⟩ := mem_ready.1 hi
      have hil := (Array.getElem?_eq_some_iff.1 ho).1
      have hns : ¬ S i := (hget i hil).1 h0
      have hr : ∀ e ∈ o.after.toList, Region.binds .any e = true → S e.on := fun e he hb => (hS e.on).1 (hed e (by simpa using he) hb)
      have hS' : ∀ k, (listed.setIfInBounds i true).getD k false = true ↔ (S k ∨ k = i) := by
        intro k
        by_cases hk : k = i
        · subst hk
          have : k < listed.size := by omega
          simp [this]
        · rw [getD_set_ne false (fun h => hk h.symm), hS k]
          simp [hk]
      have hsz' : (listed.setIfInBounds i true).size = ops.size := by simp [hsz]
      have hf' : ∀ l : List Nat, l.Nodup → (∀ k ∈ l, k < ops.size ∧ ¬ (S k ∨ k = i)) → l.length ≤ fuel := by
        intro l hl hh
        have := hf (i :: l) (List.nodup_cons.2 ⟨fun hm => (hh i hm).2 (.inr rfl), hl⟩) (by
          intro k hk
          rcases List.mem_cons.1 hk with rfl | hk
          · exact ⟨hil, hns⟩
          · exact ⟨(hh k hk).1, fun h => (hh k hk).2 (.inl h)⟩)
        simpa using this
      by_cases hp : i ∈ pre
      · exact step_pend hR hI hp hns ho hr fun R' a' w' hI' => ih _ pre rest _ rid T H R' a' w' hI' hhd hS' hsz' hf'
      · have hmem : i ∈ pre ++ rest := by rw [← hI.sched]; exact hR.mem hil
        have hmem : i ∈ rest := (List.mem_append.1 hmem).resolve_left hp
        cases rest with
        | nil => simp at hmem
        | cons e r =>
          have he : i = e := by
            rcases List.mem_cons.1 hmem with h | h
            · exact h
            · exfalso
              obtain ⟨r1, r2, hr12⟩ := List.append_of_mem h
              have hs2 : σ = (pre ++ e :: r1) ++ i :: r2 := by rw [hI.sched, hr12]; simp
              have h3 := (hR.head hs2 (j := e) (by simp)).1 (hhd e r rfl)
              have h4 := waits_in hR.back hI.closed i o e ho hr h3
              exact notin_pre hR hI.sched (hI.sub e h4)
          subst he
          refine step_act hC hR hI ho (hhd i r rfl) hr fun T' H' R' a' w' hI' => ?_
          obtain ⟨pre2, rest2, rid2, T2, H2, hI2, hhd2⟩ := advance hR _ _ _ _ _ hI'
          exact ih _ pre2 rest2 _ rid2 T2 H2 R' a' w' hI2 hhd2 hS' hsz' hf'

theorem sim_draw (hm : P.follows .mixedOrders = true) (hC : CSim P C) {id : Nat} {l : List (IOper × List IOper)} {Q : Exit → Act → World → Prop} {R : Ren} {H : IHeap} {T : Env} {a : Act} {w : World}
    (hc : compDraw P n ops = some l) (h : iwpDraw P C l K T H) (hS : Sim R H w) (hT : TRel n R T a.tmps) (hd : a.defers = [])
    (hK : ∀ T' H' R' a' w', K T' H' → Sim R' H' w' → TRel n R' T' a'.tmps → a'.defers = [] → Ext R H w R' H' w' → Q .normal a' w') : (Code.region id ops true).wp P Q a w := by
  unfold compDraw at hc
  split at hc
  case h_2 => cases hc
  rename_i xs hxs
  simp only [] at hc
  split at hc
  case isFalse => cases hc
  rename_i hok
  injection hc with hc
  subst hc
  have hR := Region'.of hxs hok
  refine wp_region_any hm ?_
  have hI0 : Inv P C n ops xs (schedI ops.toList xs ops.size []) K T R H { w with drawn := w.drawn + 1 } [] (schedI ops.toList xs ops.size []) (fun _ => False) (fun _ => 0) T H R a { w with drawn := w.drawn + 1 } := by
    refine ⟨rfl, fun _ h => h.elim, fun _ _ _ h => h.elim, fun _ h => by simp at h, h, hS.drawn _, ?_, hd, fun _ _ => rfl, fun _ h => by simp at h, fun _ h => by simp at h, Ext.refl _ _ _⟩
    have : ES ops (fun _ => False) T T = T := by
      funext d; unfold ES; split <;> rfl
    rw [this]; exact hT
  obtain ⟨pre2, rest2, rid2, T2, H2, hI2, hhd2⟩ := advance hR _ _ _ _ _ hI0
  refine draw_any hC hR (fun T' H' R' a' w' k1 k2 k3 k4 k5 => hK T' H' R' a' w' k1 k2 k3 k4 k5.drawn) ops.size _ pre2 rest2 _ rid2 T2 H2 R a _ hI2 hhd2 ?_ (by simp) ?_
  · intro i
    by_cases h : i < ops.size <;> simp [h]
  · intro l hl hh
    exact nodup_len ops.size l hl fun i hi => (hh i hi).1

end
end Go.Proofs.YtpklgklmjhblpaaI
