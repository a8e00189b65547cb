/- A region that draws its order: one order shows them all (the steps that are drawn). / A region that draws its order: one order shows them all (the whole region). / Code, results, calls. / Plain operations in the place of the model's, where the types allow it. -/
import Derived.Test.YtndndcdblfejnaaGreatRIdealP
import Derived.Laws.StructEq
namespace Go.Proofs.YtndndcdblfejnaaGreatRI
set_option linter.unusedSimpArgs false
set_option linter.unusedVariables false
open Go

section
variable {P : Program} {C : CallT} {n : Nat} {ops : Array Oper} {xs : List IOper} {σ : List Nat}
variable {K : Env → IHeap → Prop} {T0 : Env} {R0 : Ren} {H0 : IHeap} {w0 : World} {pre rest : List Nat} {S : Nat → Prop} {rid : Nat → Nat} {T : Env} {H : IHeap} {R : Ren} {a : Act} {w : World}

/-- What was made in the order is made now. -/
theorem Ext.realize {s : Sem Next} {r : Nat} {y v' : Value} {w' : World} {R' : Ren} (h : Ext R0 H0 w0 R H w) (hm : Made P R H w s r y v' w' R') (hr : H0.next ≤ r) : Ext R0 H0 w0 R' H w' := by
  refine ⟨h.le.trans hm.le, h.next, fun b hb => ?_, h.far, h.ro, fun k hk hn => ?_, fun b hb hl => ?_, Nat.le_trans h.size (by rw [hm.one.size]; omega), hm.one.os.trans h.os, hm.one.tape.trans h.tape, hm.one.output.trans h.output⟩
  · rcases (hm.dom b).1 hb with h1 | h1
    · exact h.new b h1
    · exact .inr (h1 ▸ hr)
  · rw [hm.one.old k (Nat.lt_of_lt_of_le hk h.size)]; exact h.frame k hk hn
  · rcases (hm.dom b).1 hb with h1 | h1
    · rw [hm.le.blk b h1]; exact h.own b h1 hl
    · subst h1; exact .inl (by rw [hm.blk]; exact h.size)

theorem pend_core (hR : Region' P n ops xs σ) {i : Nat} {o : Oper} {x : IOper} (hI : Inv P C n ops xs σ K T0 R0 H0 w0 pre rest S rid T H R a w) (hi : i ∈ pre) (hns : ¬ S i) (ho : ops[i]? = some o) (hx : xs[i]? = some x)
    (hco : CompOf P n ops o x) (hr : ∀ e ∈ o.after.toList, Region.binds .any e = true → S e.on) {v v' : Value} {R' : Ren} {w' : World} (hv : ∀ d, x.dst = some d → T d = v) (hvr : VR R' v v') (hsim : Sim R' H w')
    (hle : R.le R') (hext : Ext R0 H0 w0 R' H w') (hdom : ∀ b, R'.dom b → R.dom b ∨ (b = rid i ∧ makes ops xs T T0 i)) : Inv P C n ops xs σ K T0 R0 H0 w0 pre rest (fun k => S k ∨ k = i) rid T H R' (a.put o.dst v') w' := by
  have hdi : dstAt ops i = x.dst := by rw [dstAt_of ho, hco.dst]
  refine ⟨hI.sched, ?_, ?_, fun j hj ha => .inl (hI.acts j hj ha), hI.run, hsim, ?_, by rw [put_defers]; exact hI.defers, hI.old, ?_, ?_, hext⟩
  · rintro j (h | rfl)
    · exact hI.sub j h
    · exact hi
  · rintro j oj hj (h | rfl) e he hb
    · exact .inl (hI.closed j oj hj h e he hb)
    · have : oj = o := by rw [ho] at hj; exact (Option.some.inj hj).symm
      subst this
      exact .inl (hr e he hb)
  · rw [ES_same hdi hR hv, ← hco.dst]
    exact (hI.tmps.mono hle).put (fun d hd => hco.lt d (by rw [← hco.dst]; exact hd)) hvr
  · intro j hj hsj y hy
    have hsj' : ¬ S j := fun h => hsj (.inl h)
    have hji : j ≠ i := fun h => hsj (.inr h)
    obtain ⟨u, h1, h2⟩ := hI.pend j hj hsj' y hy
    refine ⟨u, h1, ?_⟩
    cases hw : wantedI (EI ops (ancL ops.toList []) j T T0) y.guard with
    | false => rw [hw] at h2; exact h2
    | true =>
      rw [hw] at h2
      rcases h2 with h2 | ⟨h5, obj, mk, h6, h7, h8, h9, h10⟩
      · exact .inl h2
      · refine .inr ⟨h5, obj, mk, h6, h7, h8, fun hd => ?_, h10⟩
        rcases hdom _ hd with h11 | ⟨h11, h12⟩
        · exact h9 h11
        · exact hji (hI.inj j hj i hi hsj' hns ⟨y, hy, h5, hw⟩ h12 h11)
  · intro j hj k hk hsj hsk hmj hmk he
    exact hI.inj j hj k hk (fun h => hsj (.inl h)) (fun h => hsk (.inl h)) hmj hmk he

theorem step_pend (hR : Region' P n ops xs σ) {i : Nat} {o : Oper} (hI : Inv P C n ops xs σ K T0 R0 H0 w0 pre rest S rid T H R a w) (hi : i ∈ pre) (hns : ¬ S i) (ho : ops[i]? = some o)
    (hr : ∀ e ∈ o.after.toList, Region.binds .any e = true → S e.on) {next : Act → World → Prop} {Q : Exit → Act → World → Prop}
    (hn : ∀ R' a' w', Inv P C n ops xs σ K T0 R0 H0 w0 pre rest (fun k => S k ∨ k = i) rid T H R' a' w' → next a' w') : wpOp P ops Q i next a w := by
  obtain ⟨o', x, ho', hx, hco⟩ := hR.get (Array.getElem?_eq_some_iff.1 ho).1
  have : o' = o := by rw [ho] at ho'; exact (Option.some.inj ho').symm
  subst this
  have hag := agree_ready (T := T) (T0 := T0) hR hI.closed ho hr hns
  obtain ⟨v, hv, h2⟩ := hI.pend i hi hns x hx
  unfold wpOp
  simp only [ho]
  rw [wanted_rel hI.tmps hco.guard hco.glt, hag.guard hco]
  cases hw : wantedI (EI ops (ancL ops.toList []) i T T0) x.guard with
  | false =>
    rw [hw] at h2
    subst h2
    simp only [Bool.false_eq_true, if_false]
    exact hn R _ w (pend_core hR hI hi hns ho hx hco hr hv (VR.undef R) hI.sim R.le_refl hI.ext fun b hb => .inl hb)
  | true =>
    rw [hw] at h2
    simp only [if_true]
    refine .inl ?_
    unfold Oper.wp
    rcases h2 with ⟨hk, h3⟩ | ⟨hk, obj, mk, h3, h4, h5, h6, h7, h10⟩
    · rw [← hag.ird hco] at h3
      obtain ⟨v', h8, h9⟩ := sim_rd hI.sim hI.tmps hco.op hk h3
      rw [h8]
      exact hn R _ w (pend_core hR hI hi hns ho hx hco hr hv h9 hI.sim R.le_refl hI.ext fun b hb => .inl hb)
    · rw [← hag.ial hco] at h3
      obtain ⟨v', w', R', hm⟩ := sim_al hI.sim hI.tmps hco.op h3 h7 h6 h5
      rw [hm.run]
      subst h4
      refine hn R' _ w' (pend_core hR hI hi hns ho hx hco hr hv hm.val hm.sim hm.le (hI.ext.realize hm h10) fun b hb => ?_)
      rcases (hm.dom b).1 hb with h | h
      · exact .inl h
      · exact .inr ⟨h, x, hx, hk, hw⟩

theorem stillAll_mem {T : Env} {H : IHeap} : ∀ {st : List IOper}, stillAll P T H st → ∀ y ∈ st, stillI P T H y
  | [], _, y, hy => by simp at hy
  | [x], h, y, hy => by simp at hy; subst hy; exact h
  | x :: z :: r, h, y, hy => by
    rcases List.mem_cons.1 hy with rfl | hy
    · exact h.1
    · exact stillAll_mem (st := z :: r) h.2 y hy

theorem act_core (hR : Region' P n ops xs σ) {e : Nat} {r : List Nat} {o : Oper} {x : IOper} (hI : Inv P C n ops xs σ K T0 R0 H0 w0 pre (e :: r) S rid T H R a w) (ho : ops[e]? = some o) (hx : xs[e]? = some x)
    (hco : CompOf P n ops o x) (hr : ∀ q ∈ o.after.toList, Region.binds .any q = true → S q.on) {v v' : Value} {R' : Ren} {H' : IHeap} {w' : World} (hvr : VR R' v v') (hsim : Sim R' H' w')
    (hext : Ext R H w R' H' w') (hrun : iwpDraw P C (layI xs (ancL ops.toList []) (pre ++ [e]) r) K (T.put x.dst v) H')
    (hstill : ∀ j ∈ pre, ¬ S j → ∀ y u, xs[j]? = some y → wantedI (EI ops (ancL ops.toList []) j T T0) y.guard = true → y.op.kind = .rd → ird P (EI ops (ancL ops.toList []) j T T0) H y.op = some u → (∀ d, y.dst = some d → T d = u) →
      ∃ u', ird P (EI ops (ancL ops.toList []) j T T0) H' y.op = some u' ∧ ∀ d, y.dst = some d → T d = u') :
    Inv P C n ops xs σ K T0 R0 H0 w0 (pre ++ [e]) r (fun k => S k ∨ k = e) rid (T.put x.dst v) H' R' (a.put o.dst v') w' := by
  have hni := notin_pre hR hI.sched
  have hdi : dstAt ops e = x.dst := by rw [dstAt_of ho, hco.dst]
  have hne : ∀ j ∈ pre, j ≠ e := fun j hj h => hni (h ▸ hj)
  have hei : ∀ j ∈ pre, EI ops (ancL ops.toList []) j (T.put x.dst v) T0 = EI ops (ancL ops.toList []) j T T0 := fun j hj => EI_put hR (hR.head hI.sched hj).2 hdi v
  have hpre : ∀ j, j ∈ pre ++ [e] → ¬ (S j ∨ j = e) → j ∈ pre ∧ ¬ S j := fun j hj hs => by
    rcases List.mem_append.1 hj with h | h
    · exact ⟨h, fun h' => hs (.inl h')⟩
    · simp at h; exact absurd (.inr h) hs
  have hmk : ∀ j ∈ pre, makes ops xs (T.put x.dst v) T0 j → makes ops xs T T0 j := by
    rintro j hj ⟨y, h1, h2, h3⟩
    rw [hei j hj] at h3
    exact ⟨y, h1, h2, h3⟩
  refine ⟨by rw [hI.sched]; simp, ?_, ?_, ?_, hrun, hsim, ?_, by rw [put_defers]; exact hI.defers, ?_, ?_, ?_, hI.ext.trans hext⟩
  · rintro j (h | rfl)
    · exact List.mem_append_left _ (hI.sub j h)
    · simp
  · rintro j oj hj (h | rfl) q hq hb
    · exact .inl (hI.closed j oj hj h q hq hb)
    · have : oj = o := by rw [ho] at hj; exact (Option.some.inj hj).symm
      subst this
      exact .inl (hr q hq hb)
  · intro j hj ha
    rcases List.mem_append.1 hj with h | h
    · exact .inl (hI.acts j h ha)
    · simp at h; exact .inr h
  · rw [ES_put hdi hR, ← hco.dst]
    exact (hI.tmps.mono hext.le).put (fun d hd => hco.lt d (by rw [← hco.dst]; exact hd)) hvr
  · intro d hd
    have : x.dst ≠ some d := by rw [← hdi]; exact hd e (by simp)
    rw [put_ne this]
    exact hI.old d fun j hj => hd j (List.mem_append_left _ hj)
  · intro j hj hsj y hy
    obtain ⟨h1, hsj'⟩ := hpre j hj hsj
    obtain ⟨u, h2, h3⟩ := hI.pend j h1 hsj' y hy
    have hd' : ∀ u, (∀ d, y.dst = some d → T d = u) → ∀ d, y.dst = some d → T.put x.dst v d = u := by
      intro u hu d hd
      rw [put_ne]
      · exact hu d hd
      · intro he
        obtain ⟨oj, yj, hoj, hyj, hcj⟩ := hR.get (hR.slt j (by rw [hI.sched]; exact List.mem_append_left _ h1))
        have hyy : yj = y := by rw [hy] at hyj; exact (Option.some.inj hyj).symm
        subst hyy
        have h4 : dstAt ops j = some d := by rw [dstAt_of hoj, ← hcj.dst]; exact hd
        rw [← hdi] at he
        exact hne j h1 (hR.uniq h4 he)
    cases hw : wantedI (EI ops (ancL ops.toList []) j T T0) y.guard with
    | false =>
      rw [hw] at h3
      exact ⟨u, hd' u h2, by rw [hei j h1, hw]; exact h3⟩
    | true =>
      rw [hw] at h3
      rcases h3 with ⟨h5, h6⟩ | ⟨h5, obj, mk, h6, h7, h8, h9, h10, h11⟩
      · obtain ⟨u', h12, h13⟩ := hstill j h1 hsj' y u hy hw h5 h6 h2
        exact ⟨u', hd' u' h13, by rw [hei j h1, hw]; exact .inl ⟨h5, h12⟩⟩
      · refine ⟨u, hd' u h2, ?_⟩
        rw [hei j h1, hw]
        refine .inr ⟨h5, obj, mk, h6, h7, by rw [hext.far _ h10 h9]; exact h8, fun hd => ?_, Nat.lt_of_lt_of_le h10 hext.next, h11⟩
        rcases hext.new _ hd with h12 | h12
        · exact h9 h12
        · omega
  · intro j hj k hk hsj hsk hmj hmk' he
    obtain ⟨h1, h1'⟩ := hpre j hj hsj
    obtain ⟨h2, h2'⟩ := hpre k hk hsk
    exact hI.inj j h1 k h2 h1' h2' (hmk j h1 hmj) (hmk k h2 hmk') he

theorem step_act (hC : CSim P C) (hR : Region' P n ops xs σ) {e : Nat} {r : List Nat} {o : Oper} (hI : Inv P C n ops xs σ K T0 R0 H0 w0 pre (e :: r) S rid T H R a w) (ho : ops[e]? = some o) (hact : actsAt xs e = true)
    (hr : ∀ q ∈ o.after.toList, Region.binds .any q = true → S q.on) {next : Act → World → Prop} {Q : Exit → Act → World → Prop}
    (hn : ∀ T' H' R' a' w', Inv P C n ops xs σ K T0 R0 H0 w0 (pre ++ [e]) r (fun k => S k ∨ k = e) rid T' H' R' a' w' → next a' w') : wpOp P ops Q e next a w := by
  obtain ⟨o', x, ho', hx, hco⟩ := hR.get (Array.getElem?_eq_some_iff.1 ho).1
  have : o' = o := by rw [ho] at ho'; exact (Option.some.inj ho').symm
  subst this
  have hni := notin_pre hR hI.sched
  have hns : ¬ S e := fun h => hni (hI.sub e h)
  have hag := agree_ready (T := T) (T0 := T0) hR hI.closed ho hr hns
  have hag2 := agree_head (T := T) (T0 := T0) hR hI.sched hI.old ho
  have hag3 : Agree ops o' T (ES ops S T T0) := fun d hd => (hag2 d hd).trans (hag d hd).symm
  have hxa : acts x = true := by unfold actsAt at hact; rw [hx] at hact; exact hact
  have hrun := hI.run
  simp only [layI, hx] at hrun
  unfold wpOp
  simp only [ho]
  rw [wanted_rel hI.tmps hco.guard hco.glt, ← hag3.guard hco]
  simp only [iwpDraw] at hrun
  cases hw : wantedI T x.guard with
  | false =>
    rw [hw] at hrun
    simp only [Bool.false_eq_true, if_false]
    exact hn _ _ R _ w (act_core hR hI ho hx hco hr (VR.undef R) hI.sim (Ext.refl _ _ _) hrun fun j hj hsj y u hy hw' hk hi hd => ⟨u, hi, hd⟩)
  | true =>
    rw [hw] at hrun
    simp only [if_true]
    simp only [] at hrun
    rw [hag3.iop hco] at hrun
    refine .inl (sim_op hC hI.sim hI.tmps hco.op hrun fun v v' R' H' w' hk hvr hsim hext => ?_)
    have hk2 : (∀ y ∈ againI xs (ancL ops.toList []) pre e, stillI P (T.put x.dst v) H' y) ∧ iwpDraw P C (layI xs (ancL ops.toList []) (pre ++ [e]) r) K (T.put x.dst v) H' := by
      generalize againI xs (ancL ops.toList []) pre e = st at hk
      cases st with
      | nil => exact ⟨by simp, hk⟩
      | cons y r => exact ⟨stillAll_mem hk.1, hk.2⟩
    refine hn _ H' R' _ w' (act_core hR hI ho hx hco hr hvr hsim hext hk2.2 ?_)
    intro j hj hsj y u hy hwj hkj hij hdj
    by_cases hl : y.op.looks = true
    · have hnw : waits (ancL ops.toList []) e j = false := by
        cases h : waits (ancL ops.toList []) e j with
        | false => rfl
        | true => exact absurd (waits_in hR.back hI.closed e o' j ho hr h) hsj
      have hmem : y ∈ againI xs (ancL ops.toList []) pre e := by
        simp only [againI, hx, hxa, if_true]
        refine List.mem_filterMap.2 ⟨j, hj, ?_⟩
        simp only [hy, seesHeap, hl, hnw, Bool.not_false, Bool.and_self, if_true]
      have hst := hk2.1 y hmem
      obtain ⟨oj, yj, hoj, hyj, hcj⟩ := hR.get (hR.slt j (by rw [hI.sched]; exact List.mem_append_left _ hj))
      have hyy : yj = y := by rw [hy] at hyj; exact (Option.some.inj hyj).symm
      subst hyy
      have hje : j ≠ e := fun h => hni (h ▸ hj)
      have hdi : dstAt ops e = x.dst := by rw [dstAt_of ho, hco.dst]
      have hsee : seesAt xs j = true := by unfold seesAt; rw [hy]; exact hl
      have hagj : Agree ops oj (T.put x.dst v) (EI ops (ancL ops.toList []) j (T.put x.dst v) T0) := by
        intro d hd
        by_cases h : ∃ k, waits (ancL ops.toList []) j k = true ∧ dstAt ops k = some d
        · rw [EI_pos h]
        · rw [EI_neg h]
          have hnow : ∀ k, dstAt ops k ≠ some d := by
            intro k hk'
            obtain ⟨ok, hok, hdk⟩ := dstAt_some hk'
            by_cases hkj' : k = j
            · subst hkj'
              have : ok = oj := by rw [hok] at hoj; exact Option.some.inj hoj
              subst this
              exact hR.own k ok d hok hdk hd
            · rcases (hR.tmp k j ok oj d hkj' hok hoj hdk).2 hd with h1 | ⟨_, h1⟩
              · exact h ⟨k, h1, hk'⟩
              · rw [hsee] at h1; cases h1
          rw [put_ne (by rw [← hdi]; exact hnow e)]
          exact hI.old d fun k _ => hnow k
      have hei : EI ops (ancL ops.toList []) j (T.put x.dst v) T0 = EI ops (ancL ops.toList []) j T T0 := EI_put hR (hR.head hI.sched hj).2 hdi v
      unfold stillI at hst
      rw [hagj.guard hcj, hei, hwj] at hst
      cases hyd : yj.dst with
      | some d =>
        rw [hyd] at hst
        simp only [] at hst
        rw [hagj.ird hcj, hei] at hst
        refine ⟨_, hst, fun d' hd' => ?_⟩
        injection hd' with hd'
        subst hd'
        rw [put_ne]
        intro he
        have h4 : dstAt ops j = some d := by rw [dstAt_of hoj, ← hcj.dst]; exact hyd
        rw [← hdi] at he
        exact hje (hR.uniq h4 he)
      | none =>
        rw [hyd] at hst
        simp only [] at hst
        rw [hagj.ird hcj, hei] at hst
        obtain ⟨u', hu'⟩ := Option.isSome_iff_exists.1 hst
        exact ⟨u', hu', by simp⟩
    · exact ⟨u, by rw [ird_far (H' := H) (by simpa using hl)]; exact hij, hdj⟩

end
end Go.Proofs.YtndndcdblfejnaaGreatRI
namespace Go.Proofs.YtndndcdblfejnaaGreatRI
set_option linter.unusedSimpArgs false
set_option linter.unusedVariables false
open Go

theorem nodup_len : ∀ (n : Nat) (l : List Nat), l.Nodup → (∀ i ∈ l, i < n) → l.length ≤ n
  | 0, l, _, h => by
    cases l with
    | nil => simp
    | cons a l => exact absurd (h a (by simp)) (by omega)
  | n + 1, l, hd, h => by
    have h1 : (l.erase n).length ≤ n := by
      refine nodup_len n (l.erase n) (hd.erase n) fun i hi => ?_
      have h2 := h i (List.mem_of_mem_erase hi)
      have h3 : i ≠ n := by
        rintro rfl
        exact (hd.mem_erase_iff.1 hi).1 rfl
      omega
    have h2 := List.length_erase (a := n) (l := l)
    split at h2 <;> omega

section
variable {P : Program} {C : CallT} {n : Nat} {ops : Array Oper} {xs : List IOper} {σ : List Nat}

theorem Region'.mem (h : Region' P n ops xs σ) {i : Nat} (hi : i < ops.size) : i ∈ σ := by
  by_cases hm : i ∈ σ
  · exact hm
  · have := nodup_len ops.size (i :: σ) (List.nodup_cons.2 ⟨hm, h.nodup⟩) (by
      intro j hj
      rcases List.mem_cons.1 hj with rfl | hj
      · exact hi
      · exact h.slt j hj)
    rw [List.length_cons, h.slen] at this
    omega

theorem Region'.of {ops : Array Oper} (hc : compOpers P n ops ops.toList = some xs) (h : drawOk ops xs (ancL ops.toList []) σ = true) : Region' P n ops xs σ := by
  obtain ⟨h1, h2⟩ := compOpers_get hc
  unfold drawOk at h
  simp only [Bool.and_eq_true, decide_eq_true_eq] at h
  obtain ⟨⟨⟨⟨⟨⟨hb, hl⟩, hnd⟩, hlt⟩, ho⟩, ht⟩, hw⟩ := h
  refine ⟨?_, by simpa using h1, hb, hl, hnd, fun i hi => by simpa using List.all_eq_true.1 hlt i hi, ho, ?_, ?_⟩
  · intro i o hi
    obtain ⟨x, hx, hco⟩ := h2 i o (by simpa using hi)
    exact ⟨x, hx, compOper_spec hco⟩
  · intro i j oi oj d hne hi hj hd
    have hil := (Array.getElem?_eq_some_iff.1 hi).1
    have hjl := (Array.getElem?_eq_some_iff.1 hj).1
    unfold okTmp at ht
    have h3 := List.all_eq_true.1 (List.all_eq_true.1 ht i (List.mem_range.2 hil)) j (List.mem_range.2 hjl)
    rw [hi, hj] at h3
    simp only [hd, Bool.or_eq_true, Bool.and_eq_true, beq_iff_eq, hne, false_or, bne_iff_ne, Bool.not_eq_true'] at h3
    refine ⟨h3.1, fun hr => ?_⟩
    rcases h3.2 with (h4 | h4) | h4
    · rw [List.contains_eq_mem] at h4
      simp at h4
      exact absurd hr h4
    · exact .inl h4
    · exact .inr h4
  · intro i o d hi hd hr
    unfold okOwn at hw
    have hm : o ∈ ops.toList := by
      have := Array.getElem?_eq_some_iff.1 hi
      obtain ⟨hil, rfl⟩ := this
      simp
    have h3 := List.all_eq_true.1 hw o hm
    simp only [hd, Bool.not_eq_true'] at h3
    rw [List.contains_eq_mem] at h3
    simp at h3
    exact h3 hr

variable {K : Env → IHeap → Prop} {T0 : Env} {R0 : Ren} {H0 : IHeap} {w0 : World}

theorem edgesBack_get : ∀ {os : List Oper} {k i : Nat} {o : Oper}, edgesBack os k = true → os[i]? = some o → ∀ e ∈ o.after.toList, Region.binds .any e = true → e.on < k + i
  | [], k, i, o, _, h => by simp at h
  | x :: os, k, i, o, hb, h => by
    simp only [edgesBack, Bool.and_eq_true] at hb
    cases i with
    | zero =>
      simp at h; subst h
      intro e he hbe
      have := List.all_eq_true.1 hb.1 e he
      simp only [hbe, Bool.not_true, Bool.false_or, decide_eq_true_eq] at this
      omega
    | succ i =>
      intro e he hbe
      have := edgesBack_get (k := k + 1) (i := i) hb.2 (by simpa using h) e he hbe
      omega

theorem draw_any (hC : CSim P C) (hR : Region' P n ops xs σ) {Q : Exit → Act → World → Prop}
    (hK : ∀ T' H' R' a' w', K T' H' → Sim R' H' w' → TRel n R' T' a'.tmps → a'.defers = [] → Ext R0 H0 w0 R' H' w' → Q .normal a' w') :
    ∀ (fuel : Nat) (listed : Array Bool) (pre rest : List Nat) (S : Nat → Prop) (rid : Nat → Nat) (T : Env) (H : IHeap) (R : Ren) (a : Act) (w : World),
      Inv P C n ops xs σ K T0 R0 H0 w0 pre rest S rid T H R a w → (∀ i r, rest = i :: r → actsAt xs i = true) → (∀ i, listed.getD i false = true ↔ S i) → listed.size = ops.size →
      (∀ l : List Nat, l.Nodup → (∀ i ∈ l, i < ops.size ∧ ¬ S i) → l.length ≤ fuel) → wpAny P .any ops Q fuel listed a w := by
  intro fuel
  induction fuel with
  | zero =>
    intro listed pre rest S rid T H R a w hI hhd hS hsz hf
    have hall : ∀ i, i < ops.size → S i := fun i hi => Classical.byContradiction fun hn => by
      have := hf [i] (by simp) (by simp [hi, hn])
      simp at this
    constructor
    · cases hrd : Region.ready .any ops listed with
      | nil => rfl
      | cons i l =>
        have : i ∈ Region.ready .any ops listed := by rw [hrd]; simp
        obtain ⟨h0, o, ho, _⟩ := mem_ready.1 this
        have hlt := (Array.getElem?_eq_some_iff.1 ho).1
        have := (hS i).2 (hall i hlt)
        have hi : i < listed.size := by omega
        simp [hi] at h0 this
        rw [h0] at this; cases this
    · have hrest : rest = [] := by
        cases rest with
        | nil => rfl
        | cons e r =>
          have := notin_pre hR hI.sched
          exact absurd (hI.sub e (hall e (hR.slt e (by rw [hI.sched]; simp)))) this
      subst hrest
      have hES : ES ops S T T0 = T := by
        funext d
        by_cases h : ∃ i, S i ∧ dstAt ops i = some d
        · rw [ES_pos h]
        · rw [ES_neg h]
          refine (hI.old d fun i hi hd => h ⟨i, ?_, hd⟩).symm
          obtain ⟨o, ho, _⟩ := dstAt_some hd
          exact hall i (Array.getElem?_eq_some_iff.1 ho).1
      have hrun := hI.run
      simp only [layI, iwpDraw] at hrun
      have ht := hI.tmps
      rw [hES] at ht
      exact hK T H R a w hrun hI.sim ht hI.defers hI.ext
  | succ fuel ih =>
    intro listed pre rest S rid T H R a w hI hhd hS hsz hf
    have hget : ∀ i, i < ops.size → (listed.getD i true = false ↔ ¬ S i) := by
      intro i hi
      have h1 := hS i
      have hi : i < listed.size := by omega
      simp [hi] at h1 ⊢
      rw [← h1]; simp
    constructor
    · intro hnil
      have hall : ∀ i, i < ops.size → S i := by
        intro i
        induction i using Nat.strongRecOn with
        | _ i ihi =>
          intro hi
          refine Classical.byContradiction fun hn => ?_
          have : i ∈ Region.ready .any ops listed := by
            rw [mem_ready]
            refine ⟨(hget i hi).2 hn, ops[i], by simp [hi], fun e he hb => ?_⟩
            have hlt := edgesBack_get hR.back (i := i) (o := ops[i]) (by simp [hi]) e (by simpa using he) hb
            exact (hS e.on).2 (ihi e.on (by omega) (by omega))
          rw [hnil] at this; simp at this
      have hrest : rest = [] := by
        cases rest with
        | nil => rfl
        | cons e r =>
          have := notin_pre hR hI.sched
          exact absurd (hI.sub e (hall e (hR.slt e (by rw [hI.sched]; simp)))) this
      subst hrest
      have hES : ES ops S T T0 = T := by
        funext d
        by_cases h : ∃ i, S i ∧ dstAt ops i = some d
        · rw [ES_pos h]
        · rw [ES_neg h]
          refine (hI.old d fun i hi hd => h ⟨i, ?_, hd⟩).symm
          obtain ⟨o, ho, _⟩ := dstAt_some hd
          exact hall i (Array.getElem?_eq_some_iff.1 ho).1
      have hrun := hI.run
      simp only [layI, iwpDraw] at hrun
      have ht := hI.tmps
      rw [hES] at ht
      exact hK T H R a w hrun hI.sim ht hI.defers hI.ext
    · intro i hi
      obtain ⟨h0, o, ho, hed⟩ := mem_ready.1 hi
      have hil := (Array.getElem?_eq_some_iff.1 ho).1
      have hns : ¬ S i := (hget i hil).1 h0
      have hr : ∀ e ∈ o.after.toList, Region.binds .any e = true → S e.on := fun e he hb => (hS e.on).1 (hed e (by simpa using he) hb)
      have hS' : ∀ k, (listed.setIfInBounds i true).getD k false = true ↔ (S k ∨ k = i) := by
        intro k
        by_cases hk : k = i
        · subst hk
          have : k < listed.size := by omega
          simp [this]
        · rw [getD_set_ne false (fun h => hk h.symm), hS k]
          simp [hk]
      have hsz' : (listed.setIfInBounds i true).size = ops.size := by simp [hsz]
      have hf' : ∀ l : List Nat, l.Nodup → (∀ k ∈ l, k < ops.size ∧ ¬ (S k ∨ k = i)) → l.length ≤ fuel := by
        intro l hl hh
        have := hf (i :: l) (List.nodup_cons.2 ⟨fun hm => (hh i hm).2 (.inr rfl), hl⟩) (by
          intro k hk
          rcases List.mem_cons.1 hk with rfl | hk
          · exact ⟨hil, hns⟩
          · exact ⟨(hh k hk).1, fun h => (hh k hk).2 (.inl h)⟩)
        simpa using this
      by_cases hp : i ∈ pre
      · exact step_pend hR hI hp hns ho hr fun R' a' w' hI' => ih _ pre rest _ rid T H R' a' w' hI' hhd hS' hsz' hf'
      · have hmem : i ∈ pre ++ rest := by rw [← hI.sched]; exact hR.mem hil
        have hmem : i ∈ rest := (List.mem_append.1 hmem).resolve_left hp
        cases rest with
        | nil => simp at hmem
        | cons e r =>
          have he : i = e := by
            rcases List.mem_cons.1 hmem with h | h
            · exact h
            · exfalso
              obtain ⟨r1, r2, hr12⟩ := List.append_of_mem h
              have hs2 : σ = (pre ++ e :: r1) ++ i :: r2 := by rw [hI.sched, hr12]; simp
              have h3 := (hR.head hs2 (j := e) (by simp)).1 (hhd e r rfl)
              have h4 := waits_in hR.back hI.closed i o e ho hr h3
              exact notin_pre hR hI.sched (hI.sub e h4)
          subst he
          refine step_act hC hR hI ho (hhd i r rfl) hr fun T' H' R' a' w' hI' => ?_
          obtain ⟨pre2, rest2, rid2, T2, H2, hI2, hhd2⟩ := advance hR _ _ _ _ _ hI'
          exact ih _ pre2 rest2 _ rid2 T2 H2 R' a' w' hI2 hhd2 hS' hsz' hf'

theorem sim_draw (hm : P.follows .mixedOrders = true) (hC : CSim P C) {id : Nat} {l : List (IOper × List IOper)} {Q : Exit → Act → World → Prop} {R : Ren} {H : IHeap} {T : Env} {a : Act} {w : World}
    (hc : compDraw P n ops = some l) (h : iwpDraw P C l K T H) (hS : Sim R H w) (hT : TRel n R T a.tmps) (hd : a.defers = [])
    (hK : ∀ T' H' R' a' w', K T' H' → Sim R' H' w' → TRel n R' T' a'.tmps → a'.defers = [] → Ext R H w R' H' w' → Q .normal a' w') : (Code.region id ops true).wp P Q a w := by
  unfold compDraw at hc
  split at hc
  case h_2 => cases hc
  rename_i xs hxs
  simp only [] at hc
  split at hc
  case isFalse => cases hc
  rename_i hok
  injection hc with hc
  subst hc
  have hR := Region'.of hxs hok
  refine wp_region_any hm ?_
  have hI0 : Inv P C n ops xs (schedI ops.toList xs ops.size []) K T R H { w with drawn := w.drawn + 1 } [] (schedI ops.toList xs ops.size []) (fun _ => False) (fun _ => 0) T H R a { w with drawn := w.drawn + 1 } := by
    refine ⟨rfl, fun _ h => h.elim, fun _ _ _ h => h.elim, fun _ h => by simp at h, h, hS.drawn _, ?_, hd, fun _ _ => rfl, fun _ h => by simp at h, fun _ h => by simp at h, Ext.refl _ _ _⟩
    have : ES ops (fun _ => False) T T = T := by
      funext d; unfold ES; split <;> rfl
    rw [this]; exact hT
  obtain ⟨pre2, rest2, rid2, T2, H2, hI2, hhd2⟩ := advance hR _ _ _ _ _ hI0
  refine draw_any hC hR (fun T' H' R' a' w' k1 k2 k3 k4 k5 => hK T' H' R' a' w' k1 k2 k3 k4 k5.drawn) ops.size _ pre2 rest2 _ rid2 T2 H2 R a _ hI2 hhd2 ?_ (by simp) ?_
  · intro i
    by_cases h : i < ops.size <;> simp [h]
  · intro l hl hh
    exact nodup_len ops.size l hl fun i hi => (hh i hi).1

end
end Go.Proofs.YtndndcdblfejnaaGreatRI
namespace Go.Proofs.YtndndcdblfejnaaGreatRI
set_option linter.unusedSimpArgs false
set_option linter.unusedVariables false
open Go

section
variable {P : Program} {C : CallT}

theorem sim_code (hm : P.follows .mixedOrders = true) (hC : CSim P C) {n : Nat} : ∀ (c : Code) (ic : ICode) (Qi : Exit → Env → IHeap → Prop) (Q : Exit → Act → World → Prop) (R : Ren) (H : IHeap) (T : Env) (a : Act) (w : World),
    comp P n c = some ic → iwp P C ic Qi T H → Sim R H w → TRel n R T a.tmps → a.defers = [] →
    (∀ e T' H' R' a' w', Qi e T' H' → Sim R' H' w' → TRel n R' T' a'.tmps → a'.defers = [] → Ext R H w R' H' w' → Q e a' w') → c.wp P Q a w := by
  intro c
  induction c with
  | skip =>
    intro ic Qi Q R H T a w hc h hS hT hd hQ
    simp only [comp, Option.some.injEq] at hc; subst hc
    exact wp_skip (hQ .normal T H R a w h hS hT hd (Ext.refl _ _ _))
  | region id ops draw =>
    intro ic Qi Q R H T a w hc h hS hT hd hQ
    cases draw with
    | false =>
      simp only [comp, Option.map_eq_some_iff] at hc
      obtain ⟨xs, hxs, rfl⟩ := hc
      exact wp_region_list (sim_ops hC ops.toList xs R H T a w hxs h hS hT hd fun T' H' R' a' w' k1 k2 k3 k4 k5 => hQ .normal T' H' R' a' w' k1 k2 k3 k4 k5)
    | true =>
      simp only [comp, Option.map_eq_some_iff] at hc
      obtain ⟨l, hl, rfl⟩ := hc
      exact sim_draw hm hC hl h hS hT hd fun T' H' R' a' w' k1 k2 k3 k4 k5 => hQ .normal T' H' R' a' w' k1 k2 k3 k4 k5
  | seq x y ihx ihy =>
    intro ic Qi Q R H T a w hc h hS hT hd hQ
    simp only [comp] at hc
    split at hc
    case h_2 => cases hc
    rename_i ix iy hx hy
    injection hc with hc; subst hc
    refine wp_seq (ihx ix _ _ R H T a w hx h hS hT hd fun e T' H' R' a' w' k1 k2 k3 k4 k5 => ?_)
    cases e with
    | normal => exact ihy iy _ _ R' H' T' a' w' hy k1 k2 k3 k4 fun e T2 H2 R2 a2 w2 q1 q2 q3 q4 q5 => hQ e T2 H2 R2 a2 w2 q1 q2 q3 q4 (k5.trans q5)
    | _ => exact hQ _ T' H' R' a' w' k1 k2 k3 k4 k5
  | cond co x y ihx ihy =>
    intro ic Qi Q R H T a w hc h hS hT hd hQ
    simp only [comp] at hc
    split at hc
    case isFalse => cases hc
    rename_i hok
    split at hc
    case h_2 => cases hc
    rename_i ix iy hx hy
    injection hc with hc; subst hc
    simp only [iwp] at h
    have hr := ev_rel hT hok
    split at h
    · rename_i he
      rw [he] at hr
      exact wp_cond_true hr.bool_inv (ihx ix _ _ R H T a w hx h hS hT hd hQ)
    · rename_i he
      rw [he] at hr
      exact wp_cond_false hr.bool_inv (ihy iy _ _ R H T a w hy h hS hT hd hQ)
    · exact h.elim
  | block id x ih =>
    intro ic Qi Q R H T a w hc h hS hT hd hQ
    simp only [comp, Option.map_eq_some_iff] at hc
    obtain ⟨ix, hx, rfl⟩ := hc
    refine wp_block (ih ix _ _ R H T a w hx h hS hT hd fun e T' H' R' a' w' k1 k2 k3 k4 k5 => ?_)
    cases e with
    | exit id' =>
      simp only [blockI] at k1
      simp only [Exit.inBlock]
      split
      · rename_i he; rw [if_pos he] at k1; exact hQ _ T' H' R' a' w' k1 k2 k3 k4 k5
      · rename_i he; rw [if_neg he] at k1; exact hQ _ T' H' R' a' w' k1 k2 k3 k4 k5
    | _ => exact hQ _ T' H' R' a' w' k1 k2 k3 k4 k5
  | loop x ih =>
    intro ic Qi Q R H T a w hc h hS hT hd hQ
    simp only [comp, Option.map_eq_some_iff] at hc
    obtain ⟨ix, hx, rfl⟩ := hc
    have key := h (fun T' H' => ∀ R' a' w', Sim R' H' w' → TRel n R' T' a'.tmps → a'.defers = [] → Ext R H w R' H' w' → ∀ b k cs, ∃ e a2 w2, Q e a2 w2 ∧ Arrives P (lone (b.at a' (.code x :: .inLoop x :: k)) cs w') b k cs e a2 w2) ?_
    · intro b k cs
      obtain ⟨e, a2, w2, hq, harr⟩ := key R a w hS hT hd (Ext.refl _ _ _) b k cs
      exact ⟨e, a2, w2, hq, .of_steps (.one step_loop) harr⟩
    · intro T' H' hb R' a' w' hS' hT' hd' hE b k cs
      have hw := ih ix _ (Exit.then (fun a2 w2 => ∀ b k cs, ∃ e a3 w3, Q e a3 w3 ∧ Arrives P (lone (b.at a2 (.code x :: .inLoop x :: k)) cs w2) b k cs e a3 w3) Q) R' H' T' a' w' hx hb hS' hT' hd'
        (fun e T2 H2 R2 a2 w2 q1 q2 q3 q4 q5 => by
          cases e with
          | normal => exact q1 R2 a2 w2 q2 q3 q4 (hE.trans q5)
          | _ => exact hQ _ T2 H2 R2 a2 w2 q1 q2 q3 q4 (hE.trans q5))
      obtain ⟨e, a₁, w₁, hq, harr⟩ := hw b (.inLoop x :: k) cs
      cases e with
      | normal =>
        obtain ⟨e₂, a₂, w₂, hq₂, harr₂⟩ := hq b k cs
        exact ⟨e₂, a₂, w₂, hq₂, .of_steps (Steps.trans harr (.one step_inLoop)) harr₂⟩
      | exit id => exact ⟨_, a₁, w₁, hq, .pass (x := .inLoop x) rfl (fun _ _ => .inl (by simp)) harr⟩
      | goto l => exact ⟨_, a₁, w₁, hq, .pass (x := .inLoop x) rfl (fun _ _ => .inl (by simp)) harr⟩
      | ret => exact ⟨_, a₁, w₁, hq, .pass (x := .inLoop x) rfl (fun _ _ => .inl (by simp)) harr⟩
      | panic ch => exact ⟨_, a₁, w₁, hq, .pass (x := .inLoop x) rfl (fun _ _ => .inl (by simp)) harr⟩
      | outgrown => exact ⟨_, a₁, w₁, hq, .pass (x := .inLoop x) rfl (fun _ _ => .inl (by simp)) harr⟩
  | exit id =>
    intro ic Qi Q R H T a w hc h hS hT hd hQ
    simp only [comp, Option.some.injEq] at hc; subst hc
    exact wp_exit (hQ _ T H R a w h hS hT hd (Ext.refl _ _ _))
  | ret =>
    intro ic Qi Q R H T a w hc h hS hT hd hQ
    simp only [comp, Option.some.injEq] at hc; subst hc
    exact wp_ret (hQ _ T H R a w h hS hT hd (Ext.refl _ _ _))
  | _ =>
    intro ic Qi Q R H T a w hc h hS hT hd hQ
    simp [comp] at hc

/-! ### Results -/

def resSem (tmps : Array Value) : ResultVar → Sem Value
  | .tmp t => pure (tmps.getD t undef)
  | .cell a t => do loadVar t (← asAddr (tmps.getD a undef))

theorem sim_res1 {R : Ren} {H : IHeap} {w : World} {n : Nat} {T : Env} {tmps : Array Value} (hS : Sim R H w) (hT : TRel n R T tmps) : ∀ (rs : List ResultVar) (is : List IRes) (l : List Value), compRes P rs = some is → iresL T H is = some l →
    ∃ l', (rs.mapM (resSem tmps)).run P w = .ok l' w ∧ VRs R l l'
  | [], is, l, hc, h => by
    simp only [compRes, Option.some.injEq] at hc; subst hc
    simp only [iresL, Option.some.injEq] at h; subst h
    exact ⟨[], by simp, .nil⟩
  | r :: rs, is, l, hc, h => by
    have fin : ∀ (i : IRes) (is' : List IRes), compRes P rs = some is' → iresL T H (i :: is') = some l → (∀ v, ires1 T H i = some v → ∃ v', (resSem tmps r).run P w = .ok v' w ∧ VR R v v') →
        ∃ l', ((r :: rs).mapM (resSem tmps)).run P w = .ok l' w ∧ VRs R l l' := by
      intro i is' hc' h' h1
      simp only [iresL] at h'
      split at h'
      case h_2 => cases h'
      rename_i v hv
      cases hl : iresL T H is' with
      | none => rw [hl] at h'; simp at h'
      | some l2 =>
        rw [hl] at h'
        simp only [Option.map_some, Option.some.injEq] at h'
        subst h'
        obtain ⟨v', h2, h3⟩ := h1 v hv
        obtain ⟨l2', h4, h5⟩ := sim_res1 hS hT rs is' l2 hc' hl
        refine ⟨v' :: l2', ?_, .cons h3 h5⟩
        rw [List.mapM_cons]
        simp [h2, h4]
    cases r with
    | tmp t =>
      simp only [compRes, Option.map_eq_some_iff] at hc
      obtain ⟨is', hc', rfl⟩ := hc
      refine fin _ is' hc' h fun v hv => ?_
      simp only [ires1, Option.some.injEq] at hv
      subst hv
      exact ⟨tmps.getD t undef, by simp [resSem], hT.get t⟩
    | cell ad t =>
      simp only [compRes] at hc
      split at hc
      · rename_i m hag hsz
        simp only [Option.map_eq_some_iff] at hc
        obtain ⟨is', hc', rfl⟩ := hc
        refine fin _ is' hc' h fun v hv => ?_
        simp only [ires1] at hv
        split at hv
        case h_2 => cases hv
        rename_i b o he
        have hr := hT.get ad
        rw [he] at hr
        obtain ⟨hx, hb⟩ := hr.ptr_inv
        simp only [Option.map_eq_some_iff] at hv
        obtain ⟨l3, hl, rfl⟩ := hv
        obtain ⟨arr, e, fr, hw, hle, hv⟩ := hS.loadL hb hl
        refine ⟨_, ?_, .agg _ _ (by simpa using hv)⟩
        simp only [resSem, hx, asAddr, pure_bind]
        exact run_loadVarN hag hsz hw hle
      · rename_i m hag hsz
        simp only [Option.map_eq_some_iff] at hc
        obtain ⟨is', hc', rfl⟩ := hc
        refine fin _ is' hc' h fun v hv => ?_
        simp only [ires1] at hv
        split at hv
        case h_2 => cases hv
        rename_i b o he
        have hr := hT.get ad
        rw [he] at hr
        obtain ⟨hx, hb⟩ := hr.ptr_inv
        obtain ⟨arr, e, fr, v', hw, hv', hr'⟩ := hS.load1 hb hv
        refine ⟨v', ?_, hr'⟩
        simp only [resSem, hx, asAddr, pure_bind]
        exact run_loadVar1 hag hw hv'
      · cases hc

theorem results_eq (fn : Func) (tmps : Array Value) : results fn tmps = (fn.results.mapM (resSem tmps)) >>= fun vs => pure (if h : vs.size = 1 then vs[0] else .tuple vs) := by
  unfold results
  congr 1

theorem sim_res {R : Ren} {H : IHeap} {w : World} {n : Nat} {T : Env} {tmps : Array Value} (hS : Sim R H w) (hT : TRel n R T tmps) {fn : Func} {is : List IRes} {v : Value} (hc : compRes P fn.results.toList = some is) (h : ires T H is = some v) :
    ∃ v', (results fn tmps).run P w = .ok v' w ∧ VR R v v' := by
  unfold ires at h
  have hr : ∀ l, iresL T H is = some l → ∃ l', (results fn tmps).run P w = .ok (if h : l'.toArray.size = 1 then l'.toArray[0] else .tuple l'.toArray) w ∧ VRs R l l' := by
    intro l hl
    obtain ⟨l', h1, h2⟩ := sim_res1 hS hT fn.results.toList is l hc hl
    refine ⟨l', ?_, h2⟩
    rw [results_eq, Array.mapM_eq_mapM_toList]
    simp [h1]
  split at h
  · rename_i u hl
    injection h with h; subst h
    obtain ⟨l', h1, h2⟩ := hr _ hl
    cases h2 with
    | cons h3 h4 => cases h4; exact ⟨_, h1, by simpa using h3⟩
  · rename_i l hne hl
    injection h with h; subst h
    obtain ⟨l', h1, h2⟩ := hr _ hl
    refine ⟨_, h1, ?_⟩
    have hln := h2.length
    have : l'.toArray.size ≠ 1 := by
      intro h5
      have h6 : l.length = 1 := by simpa [← hln] using h5
      match l, h6 with
      | [x], _ => exact hne x rfl
    rw [dif_neg this]
    exact .tuple _ _ (by simpa using h2)
  · cases h

/-! ### Calls -/

theorem sim_call (hm : P.follows .mixedOrders = true) {IP : FuncId → Option IFunc} {X : CallT} (hIP : ∀ f g, IP f = some g → compFunc P f = some g) (hX : CSim P X) : CSim P (ICall P IP X) := by
  intro f args H K h
  refine h (fun f args H K => Called P f args H K) ?_
  intro f args H K hh
  rcases hh with hh | ⟨g, hg, hbody⟩
  · exact hX f args H K hh
  · have hcf := hIP f g hg
    unfold compFunc at hcf
    split at hcf
    case h_2 => cases hcf
    rename_i fn hfn
    split at hcf
    case h_2 => cases hcf
    rename_i c hc hname
    split at hcf
    case h_2 => cases hcf
    rename_i b r hb hr
    injection hcf with hcf
    subst hcf
    refine .inl ⟨?_, ?_⟩
    · intro as w
      have hname : ¬ fn.name = "runtime.NumGoroutine" := by simpa using hname
      simp [callFunc, hfn, hname, hc]
    · intro R w args' hS hA
      obtain ⟨hle, hwp⟩ := hbody
      have hlen := hA.length
      refine calls_of_wp hfn hc ?_
      refine sim_code (n := fn.ntmps) hm (C := fun f args H K => Called P f args H K) (fun _ _ _ _ h => h) c b _ _ R H _ _ w hb hwp hS ?_ rfl ?_
      · simp only at hle
        refine ⟨by simp at hlen ⊢; omega, fun t => ?_⟩
        unfold envOf
        have : ∀ (l : List Value) (l' : List Value), VRs R l l' → ∀ t, VR R (l.getD t undef) (l'.getD t undef) := by
          intro l l' hl t
          cases hg : l[t]? with
          | none =>
            have : l'[t]? = none := by rw [List.getElem?_eq_none_iff] at hg ⊢; rw [← hl.length]; exact hg
            simp [List.getD, hg, this]; exact VR.undef R
          | some v =>
            obtain ⟨v', hv', hr⟩ := hl.get t v hg
            simp [List.getD, hg, hv']; exact hr
        have h3 := this _ _ hA t
        by_cases ht : t < args'.size
        · have : (args' ++ Array.replicate (fn.ntmps - args'.size) undef).getD t undef = args'.toList.getD t undef := by
            simp [Array.getD, List.getD, ht, Array.getElem?_append, show t < args'.size + (fn.ntmps - args'.size) by omega]
          rw [this]; exact h3
        · have e1 : args'.toList.getD t undef = undef := by simp [List.getD, ht]
          rw [e1] at h3
          have : (args' ++ Array.replicate (fn.ntmps - args'.size) undef).getD t undef = undef := by
            simp [Array.getElem?_append, ht]
            by_cases h5 : t - args'.size < fn.ntmps - args'.size <;> simp [h5]
          rw [this]; exact h3
      · intro e T' H' R' a' w' k1 k2 k3 k4 k5
        have fin : (∃ v, ires T' H' r = some v ∧ K v H') → a'.defers = [] ∧ ∃ v, (results fn a'.tmps).run P w' = .ok v w' ∧ callPost K R H w (.returned v) w' := by
          rintro ⟨v, h1, h2⟩
          obtain ⟨v', h3, h4⟩ := sim_res k2 k3 hr h1
          exact ⟨k4, v', h3, v, v', R', H', rfl, h2, h4, k2, k5⟩
        cases e with
        | normal => exact fin k1
        | ret => exact fin k1
        | _ => exact k1.elim

end
end Go.Proofs.YtndndcdblfejnaaGreatRI
namespace Go.Proofs.YtndndcdblfejnaaGreatRI
set_option linter.unusedSimpArgs false
set_option linter.unusedVariables false
open Go

def kindsFs (P : Program) (K : TypeId → Option (List KS)) : List Field → Nat → Option (List KS)
  | [], _ => some []
  | f :: fs, off => match K f.type with
    | some r =>
      if f.name ≠ "_" ∧ f.offset = off ∧ ((aggT P f.type = some true ∧ sizeT P f.type = some r.length) ∨ (aggT P f.type = some false ∧ r.length = 1)) then (kindsFs P K fs (off + r.length)).map (r ++ ·) else none
    | none => none

/-- The kinds of a type's cells; none where it is no plain one. -/
def kindsT (P : Program) : Nat → TypeId → Option (List KS)
  | 0, _ => none
  | n + 1, t => match P.underlying t with
    | some .bool => some [.b]
    | some (.int k) => some [.i k]
    | some .string => some [.s]
    | some (.struct fs) => if P.stoodInHeld t = true then none else kindsFs P (kindsT P n) fs.toList 0
    | _ => none

def refOp (P : Program) : IOp → IOp
  | .raw (.binOp op t x y yt) ty => match P.underlying t with
    | some (.int _) | some .string => .bin op x y
    | some .bool => match op with
      | .eql => .eqv false [] x y
      | .neq => .eqv true [] x y
      | _ => .raw (.binOp op t x y yt) ty
    | some (.struct _) => match kindsT P 20 t, P.eqGuardType P.depth t, op with
      | some (k :: sh), false, .eql => .eqv false (k :: sh) x y
      | some (k :: sh), false, .neq => .eqv true (k :: sh) x y
      | _, _, _ => .raw (.binOp op t x y yt) ty
    | _ => .raw (.binOp op t x y yt) ty
  | .raw (.unOp op _ x) _ => .un op x
  | .raw (.convert s d x) ty => match P.underlying s, P.underlying d with
    | some (.int _), some (.int k) => .conv k x
    | _, _ => .raw (.convert s d x) ty
  | .raw (.call ⟨.builtin b, args, tys⟩) ty => match b, args.toList, tys.toList with
    | .len, [x], [t] => match P.underlying t with
      | some .string => .strLen x
      | _ => .raw (.call ⟨.builtin b, args, tys⟩) ty
    | .max, [x, y], _ => .mxn true x y
    | .min, [x, y], _ => .mxn false x y
    | _, _, _ => .raw (.call ⟨.builtin b, args, tys⟩) ty
  | .raw (.index t x i) ty => match P.underlying t with
    | some .string => .strIdx x i
    | _ => .raw (.index t x i) ty
  | .raw (.slice t x lo hi none) ty => match P.underlying t with
    | some .string => .strSl x lo hi
    | _ => .raw (.slice t x lo hi none) ty
  | .raw (.panic _) _ => .never
  | o => o

theorem pureRun_some {α : Type} {P : Program} {s : Sem α} {a : α} (h : pureRun P s = some a) {β : Type} (f : α → Sem β) : pureRun P (s >>= f) = pureRun P (f a) := by rw [pureRun_bind', h]; rfl

section
variable {P : Program} {T : Env} {H : IHeap}

theorem raw_ok {o : Op} {ty : TypeId} {v : Value} (ho : ∀ x ∈ o.operands.toList, scal (ev T x) = true) (hr : pureRun P (execOp (ev T) ⟨none, o, ty, "", #[], none⟩) = some (.value v)) (hv : scal v = true) :
    ird P T H (.raw o ty) = some v := by
  have hall : o.operands.toList.all (fun x => scal (ev T x)) = true := List.all_eq_true.2 ho
  simp only [ird, hall, if_true, hr, hv]

theorem dec_data (a b : ByteArray) : decide (a.data.toList = b.data.toList) = decide (a = b) := by
  have : (a.data.toList = b.data.toList) ↔ a = b := by
    constructor
    · intro h
      obtain ⟨⟨x⟩⟩ := a
      obtain ⟨⟨y⟩⟩ := b
      simp at h; rw [h]
    · rintro rfl; rfl
  simp [this]

theorem str_append (a b : ByteArray) : (Value.string (a ++ b)) = strV (a.data.toList ++ b.data.toList) := by
  unfold strV
  congr 1

theorem bin_sound {op : BinOp} {t yt ty : TypeId} {x y : Operand} {v : Value} (h : bin2 op (ev T x) (ev T y) = some v) :
    ird P T H (.raw (.binOp op t x y yt) ty) = some v := by
  generalize hx : ev T x = vx at h
  generalize hy : ev T y = vy at h
  have hs : scal vx = true → scal vy = true → ∀ z ∈ (Op.binOp op t x y yt).operands.toList, scal (ev T z) = true := by
    intro h1 h2 z hz
    simp [Op.operands] at hz
    rcases hz with rfl | rfl
    · rw [hx]; exact h1
    · rw [hy]; exact h2
  unfold bin2 at h
  split at h
  · rename_i k a k' b
    have hg : pureRun P (eqGuard op t x y (.int k a) (.int k' b)) = some () := by cases op <;> rfl
    refine raw_ok (hs rfl rfl) ?_ ?_
    · simp only [execOp, hx, hy]
      rw [pureRun_bind', pureRun_some hg]
      cases op <;> simp only [] at h <;> first
        | (split at h
           · rename_i hk; subst hk
             simp only [int2, Option.some.injEq] at h
             first
               | (subst h; simp [binOp, Op.intArith, Op.intBits, Op.intCmp, pureRun, pure, Sem.pure] <;> (first | rfl | (congr 1; simp) | skip); done)
               | (split at h
                  · cases h
                  · rename_i h0; injection h with h; subst h; simp [binOp, Op.intDiv, h0, pureRun, pure]; done)
               | (subst h; simp only [binOp, Op.intArith, Op.intBits, Op.intCmp, ne_eq, not_true_eq_false, if_false]; rfl)
           · cases h)
        | (simp only [shf2] at h
           split at h
           · cases h
           · rename_i h0; simp at h; subst h; simp [binOp, Op.shift, h0, pureRun, pure]; done)
    · cases op <;> simp only [int2, shf2] at h <;> (repeat' split at h) <;> first | (injection h with h; subst h; rfl) | cases h
  · rename_i a b
    have hg : pureRun P (eqGuard op t x y (.string a) (.string b)) = some () := by cases op <;> rfl
    refine raw_ok (hs rfl rfl) ?_ ?_
    · simp only [execOp, hx, hy]
      rw [pureRun_bind', pureRun_some hg]
      have e1 : (a.toList == b.toList) = decide (a.data.toList = b.data.toList) := by rw [ByteArray.toList_eq, ByteArray.toList_eq]; rw [Bool.eq_iff_iff]; simp
      have hb : ∀ u, str2 op a.data.toList b.data.toList = some u → pureRun P (binOp op t (.string a) (.string b)) = some u := by
        intro u hu
        cases op <;> simp only [str2] at hu <;> first
          | (injection hu with hu; subst hu; simp only [binOp, Op.stringOp, e1]; simp [ByteArray.toList_eq, pureRun, pure]; done)
          | (split at hu
             · cases hu
             · rename_i h0
               injection hu with hu; subst hu
               simp only [binOp, Op.stringOp]
               have h1 : ¬ (((a.size + b.size : Nat) : Int) > IntKind.i64.max) := by simpa using h0
               rw [if_neg h1, str_append]; rfl)
          | cases hu
      rw [hb _ h]; rfl
    · cases op <;> simp only [str2] at h <;> (repeat' split at h) <;> first | (injection h with h; subst h; rfl) | cases h
  · cases h

/-! ### Equality -/

theorem bool_sound {neg : Bool} {t yt ty : TypeId} {x y : Operand} {v : Value} (ht : P.underlying t = some .bool) (h : ird P T H (.eqv neg [] x y) = some v) :
    ird P T H (.raw (.binOp (if neg then .neq else .eql) t x y yt) ty) = some v := by
  simp only [ird] at h
  generalize hx : ev T x = vx at h
  generalize hy : ev T y = vy at h
  split at h
  · simp at h
  · rename_i a b
    simp at h
    subst h
    refine raw_ok ?_ ?_ rfl
    · intro z hz
      simp [Op.operands] at hz
      rcases hz with rfl | rfl
      · rw [hx]; rfl
      · rw [hy]; rfl
    · have he : pureRun P (Op.equal t (.bool a) (.bool b)) = some (a == b) := by
        unfold Op.equal Op.maxDepth
        rw [Op.equalIn, pureRun_some (pureRun_under ht)]
        rfl
      simp only [execOp, hx, hy]
      cases neg
      · have hg : pureRun P (eqGuard .eql t x y (.bool a) (.bool b)) = some () := rfl
        simp only [Bool.false_eq_true, if_false]
        rw [pureRun_bind', pureRun_some hg]
        simp only [binOp]
        rw [pureRun_some he]
        simp [pureRun, pure]
      · have hg : pureRun P (eqGuard .neq t x y (.bool a) (.bool b)) = some () := rfl
        simp only [if_true]
        rw [pureRun_bind', pureRun_some hg]
        simp only [binOp]
        rw [pureRun_some he]
        simp [pureRun, pure]
  · cases h

theorem pure_equalIn_struct {d : Nat} {t : TypeId} {fs : Array Field} {xs ys : Array Value} (ht : P.underlying t = some (.struct fs)) (hp : P.stoodInHeld t = false) :
    pureRun P (Op.equalIn (d + 1) t (.agg xs) (.agg ys)) = pureRun P (Op.eqFields d xs ys fs.toList) := by
  simp only [Op.equalIn]
  rw [pureRun_some (pureRun_under ht)]
  simp only []
  have hpr : pureRun P program = some P := rfl
  rw [pureRun_bind', hpr]
  simp only [Option.bind_some, hp, Bool.false_eq_true, if_false]
  rw [← Array.forIn_toList]
  generalize fs.toList = l
  clear ht
  induction l with
  | nil => simp [Op.eqFields, pureRun_bind', pureRun_pure]
  | cons f l ih =>
    simp only [List.forIn_cons, Op.eqFields]
    split
    · simp only [bind_assoc]
      rw [pureRun_bind', pureRun_bind']
      congr 1
      funext a
      rw [pureRun_bind', pureRun_bind']
      congr 1
      funext b
      rw [pureRun_bind', pureRun_bind']
      congr 1
      funext r
      cases r
      · simp [pureRun_pure]
      · simp only [Bool.not_true, Bool.false_eq_true, if_false, pure_bind]
        exact ih
    · simp only [pure_bind]
      exact ih

theorem shOk_length : ∀ {sh : List KS} {l : List Value}, shOk sh l = true → l.length = sh.length
  | [], [], _ => rfl
  | [], _ :: _, h => by simp [shOk] at h
  | k :: sh, [], h => by cases k <;> simp [shOk] at h
  | k :: sh, v :: l, h => by
    have : shOk sh l = true := by
      cases k <;> cases v <;> simp [shOk] at h <;> first | exact h | exact h.2
    simp [shOk_length this]

theorem shOk_append : ∀ {a b : List KS} {l : List Value}, shOk (a ++ b) l = true → ∃ x y, l = x ++ y ∧ shOk a x = true ∧ shOk b y = true
  | [], b, l, h => ⟨[], l, rfl, rfl, h⟩
  | k :: a, b, [], h => by cases k <;> simp [shOk] at h
  | k :: a, b, v :: l, h => by
    have hsub : shOk (a ++ b) l = true ∧ ∀ z, shOk a z = true → shOk (k :: a) (v :: z) = true := by
      cases k <;> cases v <;> simp [shOk] at h ⊢ <;> first | exact h | exact ⟨h.2, fun z hz => ⟨h.1, hz⟩⟩ | exact ⟨h, fun z hz => hz⟩
    obtain ⟨x, y, rfl, h1, h2⟩ := shOk_append hsub.1
    exact ⟨v :: x, y, rfl, hsub.2 x h1, h2⟩

theorem eqL_append : ∀ {a c b d : List Value}, a.length = c.length → eqL (a ++ b) (c ++ d) = (eqL a c && eqL b d)
  | [], [], _, _, _ => by simp [eqL]
  | [], _ :: _, _, _, h => by simp at h
  | _ :: _, [], _, _, h => by simp at h
  | x :: a, y :: c, b, d, h => by simp [eqL, eqL_append (a := a) (c := c) (by simpa using h), Bool.and_assoc]

theorem pureRun_isAgg {t : TypeId} {b : Bool} (h : aggT P t = some b) : pureRun P (isAgg t) = some b := by
  unfold aggT at h
  cases hu : P.underlying t with
  | none => simp [hu] at h
  | some d =>
    unfold isAgg
    rw [pureRun_some (pureRun_under hu)]
    cases d <;> simp [hu] at h <;> subst h <;> rfl

theorem pureRun_sizeOf {t : TypeId} {n : Nat} (h : sizeT P t = some n) : pureRun P (sizeOf t) = some n := by
  unfold sizeT at h
  cases hi : P.info? t with
  | none => simp [hi] at h
  | some i =>
    simp [hi] at h
    unfold sizeOf typeInfo
    simp only [bind_assoc]
    have hpr : pureRun P program = some P := rfl
    rw [pureRun_bind', hpr]
    simp only [Option.bind_some, hi]
    subst h
    rfl

theorem eq_kinds : ∀ (n : Nat) (t : TypeId) (sh : List KS), kindsT P n t = some sh → ∀ D, n ≤ D → ∀ cx cy : List Value, shOk sh cx = true → shOk sh cy = true →
    (aggT P t = some true → pureRun P (Op.equalIn D t (.agg cx.toArray) (.agg cy.toArray)) = some (eqL cx cy)) ∧
    (aggT P t = some false → ∀ vx vy, cx = [vx] → cy = [vy] → pureRun P (Op.equalIn D t vx vy) = some (eqL cx cy)) := by
  intro n
  induction n with
  | zero => intro t sh h; simp [kindsT] at h
  | succ n ih =>
    intro t sh h D hD cx cy hx hy
    obtain ⟨d, rfl⟩ : ∃ d, D = d + 1 := ⟨D - 1, by omega⟩
    simp only [kindsT] at h
    split at h
    · rename_i hu
      injection h with h; subst h
      refine ⟨fun ha => by simp [aggT, hu] at ha, fun _ vx vy h1 h2 => ?_⟩
      subst h1; subst h2
      cases vx <;> simp [shOk] at hx
      cases vy <;> simp [shOk] at hy
      simp only [Op.equalIn]
      rw [pureRun_some (pureRun_under hu)]
      simp [eqL, eq1, pureRun, pure]
    · rename_i k hu
      injection h with h; subst h
      refine ⟨fun ha => by simp [aggT, hu] at ha, fun _ vx vy h1 h2 => ?_⟩
      subst h1; subst h2
      cases vx <;> simp [shOk] at hx
      cases vy <;> simp [shOk] at hy
      subst hx; subst hy
      simp only [Op.equalIn]
      rw [pureRun_some (pureRun_under hu)]
      simp [eqL, eq1, pureRun, pure]
      rfl
    · rename_i hu
      injection h with h; subst h
      refine ⟨fun ha => by simp [aggT, hu] at ha, fun _ vx vy h1 h2 => ?_⟩
      subst h1; subst h2
      cases vx <;> simp [shOk] at hx
      cases vy <;> simp [shOk] at hy
      rename_i a b
      simp only [Op.equalIn]
      rw [pureRun_some (pureRun_under hu)]
      have : (a == b) = decide (a = b) := by
        rw [beq_toListBytes, ByteArray.toList_eq, ByteArray.toList_eq, ← dec_data, Bool.eq_iff_iff]; simp
      simp [eqL, eq1, pureRun, pure, this]
    · rename_i fs hu
      split at h
      · cases h
      rename_i hst
      have hst : P.stoodInHeld t = false := by simpa using hst
      refine ⟨fun _ => ?_, fun ha => by simp [aggT, hu] at ha⟩
      rw [pure_equalIn_struct hu hst]
      have key : ∀ (l : List Field) (off : Nat) (s : List KS), kindsFs P (kindsT P n) l off = some s → ∀ px py ux uy : List Value, px.length = off → py.length = off → shOk s ux = true → shOk s uy = true →
          pureRun P (Op.eqFields d (px ++ ux).toArray (py ++ uy).toArray l) = some (eqL ux uy) := by
        intro l
        induction l with
        | nil =>
          intro off s hs px py ux uy _ _ h1 h2
          simp only [kindsFs, Option.some.injEq] at hs
          subst hs
          have := shOk_length h1; have := shOk_length h2
          cases ux <;> cases uy <;> simp_all [Op.eqFields, eqL, pureRun_pure]
        | cons f l ihl =>
          intro off s hs px py ux uy hpx hpy h1 h2
          simp only [kindsFs] at hs
          split at hs
          case h_2 => cases hs
          rename_i r hr
          split at hs
          case isFalse => cases hs
          rename_i hcond
          obtain ⟨hn, hoff, hag⟩ := hcond
          simp only [Option.map_eq_some_iff] at hs
          obtain ⟨s', hs', rfl⟩ := hs
          obtain ⟨x1, x2, rfl, k1, k2⟩ := shOk_append h1
          obtain ⟨y1, y2, rfl, m1, m2⟩ := shOk_append h2
          have lx := shOk_length k1
          have ly := shOk_length m1
          have hrest := ihl (off + r.length) s' hs' (px ++ x1) (py ++ y1) x2 y2 (by simp [hpx, lx]) (by simp [hpy, ly]) k2 m2
          simp only [List.append_assoc] at hrest
          rw [eqL_append (lx.trans ly.symm)]
          simp only [Op.eqFields, if_pos hn]
          have hk := ih f.type r hr d (by omega) x1 y1 k1 m1
          have fin : ∀ va vb, pureRun P (part f.type (px ++ (x1 ++ x2)).toArray f.offset) = some va → pureRun P (part f.type (py ++ (y1 ++ y2)).toArray f.offset) = some vb → pureRun P (Op.equalIn d f.type va vb) = some (eqL x1 y1) →
              pureRun P (part f.type (px ++ (x1 ++ x2)).toArray f.offset >>= fun a => part f.type (py ++ (y1 ++ y2)).toArray f.offset >>= fun b => Op.equalIn d f.type a b >>= fun r => if (!r) = true then pure false else Op.eqFields d (px ++ (x1 ++ x2)).toArray (py ++ (y1 ++ y2)).toArray l) = some (eqL x1 y1 && eqL x2 y2) := by
            intro va vb e1 e2 e3
            rw [pureRun_some e1, pureRun_some e2, pureRun_some e3]
            cases eqL x1 y1
            · simp [pureRun_pure]
            · simpa using hrest
          rcases hag with ⟨ha, hsz⟩ | ⟨ha, hl1⟩
          · refine fin (.agg x1.toArray) (.agg y1.toArray) ?_ ?_ (hk.1 ha)
            · unfold part
              rw [pureRun_some (pureRun_isAgg ha)]
              simp only [if_true]
              rw [pureRun_some (pureRun_sizeOf hsz), hoff, ← hpx, ← lx]
              simp [pureRun, pure]
            · unfold part
              rw [pureRun_some (pureRun_isAgg ha)]
              simp only [if_true]
              rw [pureRun_some (pureRun_sizeOf hsz), hoff, ← hpy, ← ly]
              simp [pureRun, pure]
          · match x1, lx, y1, ly with
            | [va], _, [vb], _ =>
              refine fin va vb ?_ ?_ (hk.2 ha va vb rfl rfl)
              · unfold part
                rw [pureRun_some (pureRun_isAgg ha), hoff, ← hpx]
                simp [pureRun, pure]
              · unfold part
                rw [pureRun_some (pureRun_isAgg ha), hoff, ← hpy]
                simp [pureRun, pure]
            | [], l1, _, _ => simp [hl1] at l1
            | _ :: _ :: _, l1, _, _ => simp [hl1] at l1
            | [_], _, [], l1 => simp [hl1] at l1
            | [_], _, _ :: _ :: _, l1 => simp [hl1] at l1
      exact key fs.toList 0 sh h [] [] cx cy rfl rfl hx hy
    · cases h

theorem scal1_shOk : ∀ {sh : List KS} {l : List Value}, shOk sh l = true → l.all scal1 = true
  | [], [], _ => rfl
  | [], _ :: _, h => by simp [shOk] at h
  | k :: sh, [], h => by cases k <;> simp [shOk] at h
  | k :: sh, v :: l, h => by
    have : scal1 v = true ∧ shOk sh l = true := by
      cases k <;> cases v <;> simp [shOk] at h <;> first | exact ⟨rfl, h⟩ | exact ⟨rfl, h.2⟩
    simp [this.1, scal1_shOk this.2]

theorem eqv_sound {neg : Bool} {t yt ty : TypeId} {x y : Operand} {v : Value} {sh : List KS} {fs : Array Field} (hu : P.underlying t = some (.struct fs)) (hk : kindsT P 20 t = some sh) (hg : P.eqGuardType P.depth t = false) (hne : sh ≠ [])
    (h : ird P T H (.eqv neg sh x y) = some v) : ird P T H (.raw (.binOp (if neg then .neq else .eql) t x y yt) ty) = some v := by
  simp only [ird] at h
  generalize hx : ev T x = vx at h
  generalize hy : ev T y = vy at h
  split at h
  · rename_i a b
    split at h
    case isFalse => cases h
    rename_i hc
    injection h with h
    subst h
    refine raw_ok ?_ ?_ rfl
    · intro z hz
      simp [Op.operands] at hz
      rcases hz with rfl | rfl
      · rw [hx]; exact scal1_shOk hc.2.1
      · rw [hy]; exact scal1_shOk hc.2.2
    · have ha : aggT P t = some true := by simp [aggT, hu]
      have he : pureRun P (Op.equal t (.agg a) (.agg b)) = some (eqL a.toList b.toList) := by
        unfold Op.equal Op.maxDepth
        exact (eq_kinds 20 t sh hk 10000 (by omega) a.toList b.toList hc.2.1 hc.2.2).1 ha
      have hgd : ∀ op, pureRun P (eqGuard op t x y (.agg a) (.agg b)) = some () := by
        intro op
        have hpr : pureRun P program = some P := rfl
        cases op <;> simp [eqGuard, pureRun_bind', hpr, hg, pureRun_pure]
      simp only [execOp, hx, hy]
      cases neg
      · simp only [Bool.false_eq_true, if_false]
        rw [pureRun_bind', pureRun_some (hgd _)]
        simp only [binOp]
        rw [pureRun_some he]
        simp [pureRun, pure]
      · simp only [if_true]
        rw [pureRun_bind', pureRun_some (hgd _)]
        simp only [binOp]
        rw [pureRun_some he]
        simp [pureRun, pure]
  · simp [hne] at h
  · cases h

theorem un_sound {op : UnOp} {t ty : TypeId} {x : Operand} {v : Value} (h : ird P T H (.un op x) = some v) : ird P T H (.raw (.unOp op t x) ty) = some v := by
  simp only [ird] at h
  generalize hx : ev T x = vx at h
  unfold un1 at h
  have hs : scal vx = true → ∀ z ∈ (Op.unOp op t x).operands.toList, scal (ev T z) = true := by
    intro h1 z hz
    simp [Op.operands] at hz
    subst hz; rw [hx]; exact h1
  split at h
  · injection h with h; subst h
    exact raw_ok (hs rfl) (by simp only [execOp, hx]; rfl) rfl
  · injection h with h; subst h
    exact raw_ok (hs rfl) (by simp only [execOp, hx]; rfl) rfl
  · simp only [int2, Option.some.injEq] at h; subst h
    exact raw_ok (hs rfl) (by simp only [execOp, hx]; rfl) rfl
  · cases h

theorem conv_sound {s d ty : TypeId} {k k0 : IntKind} {x : Operand} {v : Value} (hs : P.underlying s = some (.int k0)) (hd : P.underlying d = some (.int k)) (h : ird P T H (.conv k x) = some v) : ird P T H (.raw (.convert s d x) ty) = some v := by
  simp only [ird] at h
  split at h
  · rename_i kk n hx
    injection h with h; subst h
    refine raw_ok (by intro z hz; simp [Op.operands] at hz; subst hz; rw [hx]; rfl) ?_ rfl
    simp only [execOp, hx, convert]
    rw [pureRun_bind', pureRun_some (pureRun_under hs), pureRun_some (pureRun_under hd)]
    rfl
  · cases h

theorem strLen_sound {t ty : TypeId} {x : Operand} {args : Array Operand} {tys : Array TypeId} {v : Value} (ht : P.underlying t = some .string) (ha : args.toList = [x]) (hy : tys.toList = [t]) (h : ird P T H (.strLen x) = some v) :
    ird P T H (.raw (.call ⟨.builtin .len, args, tys⟩) ty) = some v := by
  obtain rfl : args = #[x] := by cases args; simp_all
  obtain rfl : tys = #[t] := by cases tys; simp_all
  simp only [ird] at h
  split at h
  · rename_i s hx
    injection h with h; subst h
    refine raw_ok (by intro z hz; simp [Op.operands, Call.operands] at hz; subst hz; rw [hx]; rfl) ?_ rfl
    have e : execOp (ev T) ⟨none, .call ⟨.builtin .len, #[x], #[t]⟩, ty, "", #[], none⟩ = (do pure (.value (← Builtin.len_ #[t] ty #[ev T x]))) := by
      simp [execOp, resolve, invoke, builtin]
    rw [e, hx]
    unfold Builtin.len_
    rw [pureRun_bind']
    simp only [List.getElem?_toArray, List.getElem?_cons_zero]
    rw [pureRun_some (pureRun_under ht)]
    rfl
  · cases h

theorem mxn_sound {mx : Bool} {ty : TypeId} {x y : Operand} {args : Array Operand} {tys : Array TypeId} {v : Value} (ha : args.toList = [x, y]) (h : ird P T H (.mxn mx x y) = some v) :
    ird P T H (.raw (.call ⟨.builtin (if mx then .max else .min), args, tys⟩) ty) = some v := by
  obtain rfl : args = #[x, y] := by cases args; simp_all
  simp only [ird] at h
  split at h
  · rename_i k a k' b hx hy
    injection h with h; subst h
    refine raw_ok (by intro z hz; simp [Op.operands, Call.operands] at hz; rcases hz with rfl | rfl; rw [hx]; rfl; rw [hy]; rfl) ?_ rfl
    cases mx
    · have e : execOp (ev T) ⟨none, .call ⟨.builtin .min, #[x, y], tys⟩, ty, "", #[], none⟩ = (do pure (.value (← Builtin.min_ tys ty #[ev T x, ev T y]))) := by
        simp [execOp, resolve, invoke, builtin]
      simp only [Bool.false_eq_true, if_false]
      rw [e, hx, hy]; rfl
    · have e : execOp (ev T) ⟨none, .call ⟨.builtin .max, #[x, y], tys⟩, ty, "", #[], none⟩ = (do pure (.value (← Builtin.max_ tys ty #[ev T x, ev T y]))) := by
        simp [execOp, resolve, invoke, builtin]
      simp only [if_true]
      rw [e, hx, hy]; rfl
  · cases h

theorem strIdx_sound {t ty : TypeId} {x i : Operand} {v : Value} (ht : P.underlying t = some .string) (h : ird P T H (.strIdx x i) = some v) : ird P T H (.raw (.index t x i) ty) = some v := by
  simp only [ird] at h
  split at h
  · rename_i s k j hx hi
    split at h
    · rename_i hj
      simp only [Option.map_eq_some_iff] at h
      obtain ⟨b, hb, rfl⟩ := h
      refine raw_ok (by intro z hz; simp [Op.operands] at hz; rcases hz with rfl | rfl; rw [hx]; rfl; rw [hi]; rfl) ?_ rfl
      have hb' : s[j.toNat]? = some b := by
        have hlt : j.toNat < s.data.toList.length := (List.getElem?_eq_some_iff.1 hb).1
        have e : s[j.toNat]? = s.data.toList[j.toNat]? := by
          simp only [getElem?_def]
          have h1 : j.toNat < s.size := by simpa using hlt
          simp [h1, hlt]
          rfl
        rw [e, hb]
      simp only [execOp, hx, hi, Instr.index]
      have hii : pureRun P (asIntOf (.int k j)) = some (k, j) := rfl
      rw [pureRun_bind', pureRun_some hii]
      simp only []
      rw [pureRun_some (pureRun_under ht)]
      simp only [hj, if_true, hb']
      rfl
    · cases h
  · cases h

theorem extract_data (s : ByteArray) (l h : Nat) : (Value.string (s.extract l h)) = strV ((s.data.toList.drop l).take (h - l)) := by
  unfold strV
  congr 1
  apply ByteArray.ext
  rw [ByteArray.data_extract]
  obtain ⟨⟨d⟩⟩ := s
  simp

theorem bound_ok {T : Env} {x : Operand} {n y : Nat} {code : BoundsCode} (h : natI T x = some n) (hy : n ≤ y) : pureRun P (Instr.sliceBound (ev T x) y code) = some n := by
  unfold natI at h
  split at h
  · rename_i k i hx
    split at h
    · rename_i h0
      injection h with h
      rw [hx]
      unfold Instr.sliceBound
      have hii : pureRun P (asIntOf (.int k i)) = some (k, i) := rfl
      rw [pureRun_some hii]
      simp only []
      rw [if_pos ⟨h0, by omega⟩, h]; rfl
    · cases h
  · cases h

theorem strSl_sound {t ty : TypeId} {x : Operand} {lo hi : Option Operand} {v : Value} (ht : P.underlying t = some .string) (h : ird P T H (.strSl x lo hi) = some v) : ird P T H (.raw (.slice t x lo hi none) ty) = some v := by
  simp only [ird] at h
  split at h
  · rename_i s hx
    split at h
    · rename_i l hh m hb
      split at h
      · rename_i hle
        injection h with h; subst h
        unfold boundsI at hb
        simp only [Option.isSome_none, Bool.false_eq_true, if_false] at hb
        have hnat : ∀ y n, natI T y = some n → scal (ev T y) = true := by
          intro y n hy
          unfold natI at hy
          split at hy
          · rename_i hq; rw [hq]; rfl
          · cases hy
        have hsize : s.data.toList.length = s.size := by simp
        rw [hsize] at hb hle
        have hcase : ∀ (A B : Option Nat), (match some (none : Option Nat), B, A with | some m, some h, some l => if l ≤ h ∧ h ≤ m.getD h then some (l, h, m) else none | _, _, _ => none) = some (l, hh, m) → A = some l ∧ B = some hh ∧ l ≤ hh := by
          intro A B hq
          cases A <;> cases B <;> simp at hq
          obtain ⟨h1, h2, h3, _⟩ := hq
          subst h2; subst h3
          exact ⟨rfl, rfl, h1⟩
        obtain ⟨h1, h2, h3⟩ := hcase _ _ hb
        clear hb
        have hrun : pureRun P (Instr.slice t (ev T x) (lo.map (ev T)) (hi.map (ev T)) none) = some (.string (s.extract l hh)) := by
          unfold Instr.slice
          rw [hx, pureRun_some (pureRun_under ht)]
          simp only [Option.isSome_none, Bool.false_eq_true, if_false]
          have hbd : pureRun P (Instr.sliceBounds false s.size s.size (lo.map (ev T)) (hi.map (ev T)) none) = some (l, hh, s.size) := by
            unfold Instr.sliceBounds
            simp only [pure_bind]
            cases hi with
            | none =>
              simp only [Option.some.injEq] at h2
              subst h2
              cases lo with
              | none => simp only [Option.some.injEq] at h1; subst h1; rfl
              | some y =>
                simp only [Option.map_some, Option.map_none, pure_bind]
                rw [pureRun_some (bound_ok h1 h3)]; rfl
            | some z =>
              simp only [Option.map_some, pure_bind]
              rw [pureRun_some (bound_ok h2 hle)]
              cases lo with
              | none => simp only [Option.some.injEq] at h1; subst h1; rfl
              | some y =>
                simp only [Option.map_some]
                rw [pureRun_some (bound_ok h1 h3)]; rfl
          rw [pureRun_some hbd]
          rfl
        refine raw_ok ?_ ?_ rfl
        · intro z hz
          cases lo <;> cases hi <;> simp [Op.operands] at hz <;> first
            | (subst hz; rw [hx]; rfl)
            | (rcases hz with rfl | rfl
               · rw [hx]; rfl
               · first | exact hnat _ _ h1 | exact hnat _ _ h2)
            | (rcases hz with rfl | rfl | rfl
               · rw [hx]; rfl
               · exact hnat _ _ h1
               · exact hnat _ _ h2)
        · have e : pureRun P (execOp (ev T) ⟨none, .slice t x lo hi none, ty, "", #[], none⟩) = pureRun P (do pure (.value (← Instr.slice t (ev T x) (lo.map (ev T)) (hi.map (ev T)) none)) : Sem Next) := by
            simp only [execOp, Option.map_none]
            rw [pureRun_bind', pureRun_bind']
            congr 1
            unfold Instr.sliceAt
            rw [pureRun_some (pureRun_under ht)]
          rw [e, pureRun_some hrun, extract_data]; rfl
      · cases h
    · cases h
  · cases h

end
end Go.Proofs.YtndndcdblfejnaaGreatRI
