/- A region that draws its order: one order shows them all (the steps that are drawn). -/
import Derived.Test.YtpklgklmjhblpaaIdealP
namespace Go.Proofs.YtpklgklmjhblpaaI
set_option linter.unusedSimpArgs false
set_option linter.unusedVariables false
open Go

section
variable {P : Program} {C : CallT} {n : Nat} {ops : Array Oper} {xs : List IOper} {σ : List Nat}
variable {K : Env → IHeap → Prop} {T0 : Env} {R0 : Ren} {H0 : IHeap} {w0 : World} {pre rest : List Nat} {S : Nat → Prop} {rid : Nat → Nat} {T : Env} {H : IHeap} {R : Ren} {a : Act} {w : World}

/-- What was made in the order is made now. -/
theorem Ext.realize {s : Sem Next} {r : Nat} {y v' : Value} {w' : World} {R' : Ren} (h : Ext R0 H0 w0 R H w) (hm : Made P R H w s r y v' w' R') (hr : H0.next ≤ r) : Ext R0 H0 w0 R' H w' := by
  refine ⟨h.le.trans hm.le, h.next, fun b hb => ?_, h.far, h.ro, fun k hk hn => ?_, fun b hb hl => ?_, Nat.le_trans h.size (by rw [hm.one.size]; omega), hm.one.os.trans h.os, hm.one.tape.trans h.tape, hm.one.output.trans h.output⟩
  · rcases (hm.dom b).1 hb with h1 | h1
    · exact h.new b h1
    · exact .inr (h1 ▸ hr)
  · rw [hm.one.old k (Nat.lt_of_lt_of_le hk h.size)]; exact h.frame k hk hn
  · rcases (hm.dom b).1 hb with h1 | h1
    · rw [hm.le.blk b h1]; exact h.own b h1 hl
    · subst h1; exact .inl (by rw [hm.blk]; exact h.size)

theorem pend_core (hR : Region' P n ops xs σ) {i : Nat} {o : Oper} {x : IOper} (hI : Inv P C n ops xs σ K T0 R0 H0 w0 pre rest S rid T H R a w) (hi : i ∈ pre) (hns : ¬ S i) (ho : ops[i]? = some o) (hx : xs[i]? = some x)
    (hco : CompOf P n ops o x) (hr : ∀ e ∈ o.after.toList, Region.binds .any e = true → S e.on) {v v' : Value} {R' : Ren} {w' : World} (hv : ∀ d, x.dst = some d → T d = v) (hvr : VR R' v v') (hsim : Sim R' H w')
    (hle : R.le R') (hext : Ext R0 H0 w0 R' H w') (hdom : ∀ b, R'.dom b → R.dom b ∨ (b = rid i ∧ makes ops xs T T0 i)) : Inv P C n ops xs σ K T0 R0 H0 w0 pre rest (fun k => S k ∨ k = i) rid T H R' (a.put o.dst v') w' := by
  have hdi : dstAt ops i = x.dst := by rw [dstAt_of ho, hco.dst]
  refine ⟨hI.sched, ?_, ?_, fun j hj ha => .inl (hI.acts j hj ha), hI.run, hsim, ?_, by rw [put_defers]; exact hI.defers, hI.old, ?_, ?_, hext⟩
  · rintro j (h | rfl)
    · exact hI.sub j h
    · exact hi
  · rintro j oj hj (h | rfl) e he hb
    · exact .inl (hI.closed j oj hj h e he hb)
    · have : oj = o := by rw [ho] at hj; exact (Option.some.inj hj).symm
      subst this
      exact .inl (hr e he hb)
  · rw [ES_same hdi hR hv, ← hco.dst]
    exact (hI.tmps.mono hle).put (fun d hd => hco.lt d (by rw [← hco.dst]; exact hd)) hvr
  · intro j hj hsj y hy
    have hsj' : ¬ S j := fun h => hsj (.inl h)
    have hji : j ≠ i := fun h => hsj (.inr h)
    obtain ⟨u, h1, h2⟩ := hI.pend j hj hsj' y hy
    refine ⟨u, h1, ?_⟩
    cases hw : wantedI (EI ops (ancL ops.toList []) j T T0) y.guard with
    | false => rw [hw] at h2; exact h2
    | true =>
      rw [hw] at h2
      rcases h2 with h2 | ⟨h5, obj, mk, h6, h7, h8, h9, h10⟩
      · exact .inl h2
      · refine .inr ⟨h5, obj, mk, h6, h7, h8, fun hd => ?_, h10⟩
        rcases hdom _ hd with h11 | ⟨h11, h12⟩
        · exact h9 h11
        · exact hji (hI.inj j hj i hi hsj' hns ⟨y, hy, h5, hw⟩ h12 h11)
  · intro j hj k hk hsj hsk hmj hmk he
    exact hI.inj j hj k hk (fun h => hsj (.inl h)) (fun h => hsk (.inl h)) hmj hmk he

theorem step_pend (hR : Region' P n ops xs σ) {i : Nat} {o : Oper} (hI : Inv P C n ops xs σ K T0 R0 H0 w0 pre rest S rid T H R a w) (hi : i ∈ pre) (hns : ¬ S i) (ho : ops[i]? = some o)
    (hr : ∀ e ∈ o.after.toList, Region.binds .any e = true → S e.on) {next : Act → World → Prop} {Q : Exit → Act → World → Prop}
    (hn : ∀ R' a' w', Inv P C n ops xs σ K T0 R0 H0 w0 pre rest (fun k => S k ∨ k = i) rid T H R' a' w' → next a' w') : wpOp P ops Q i next a w := by
  obtain ⟨o', x, ho', hx, hco⟩ := hR.get (Array.getElem?_eq_some_iff.1 ho).1
  have : o' = o := by rw [ho] at ho'; exact (Option.some.inj ho').symm
  subst this
  have hag := agree_ready (T := T) (T0 := T0) hR hI.closed ho hr hns
  obtain ⟨v, hv, h2⟩ := hI.pend i hi hns x hx
  unfold wpOp
  simp only [ho]
  rw [wanted_rel hI.tmps hco.guard hco.glt, hag.guard hco]
  cases hw : wantedI (EI ops (ancL ops.toList []) i T T0) x.guard with
  | false =>
    rw [hw] at h2
    subst h2
    simp only [Bool.false_eq_true, if_false]
    exact hn R _ w (pend_core hR hI hi hns ho hx hco hr hv (VR.undef R) hI.sim R.le_refl hI.ext fun b hb => .inl hb)
  | true =>
    rw [hw] at h2
    simp only [if_true]
    refine .inl ?_
    unfold Oper.wp
    rcases h2 with ⟨hk, h3⟩ | ⟨hk, obj, mk, h3, h4, h5, h6, h7, h10⟩
    · rw [← hag.ird hco] at h3
      obtain ⟨v', h8, h9⟩ := sim_rd hI.sim hI.tmps hco.op hk h3
      rw [h8]
      exact hn R _ w (pend_core hR hI hi hns ho hx hco hr hv h9 hI.sim R.le_refl hI.ext fun b hb => .inl hb)
    · rw [← hag.ial hco] at h3
      obtain ⟨v', w', R', hm⟩ := sim_al hI.sim hI.tmps hco.op h3 h7 h6 h5
      rw [hm.run]
      subst h4
      refine hn R' _ w' (pend_core hR hI hi hns ho hx hco hr hv hm.val hm.sim hm.le (hI.ext.realize hm h10) fun b hb => ?_)
      rcases (hm.dom b).1 hb with h | h
      · exact .inl h
      · exact .inr ⟨h, x, hx, hk, hw⟩

theorem stillAll_mem {T : Env} {H : IHeap} : ∀ {st : List IOper}, stillAll P T H st → ∀ y ∈ st, stillI P T H y
  | [], _, y, hy => by simp at hy
  | [x], h, y, hy => by simp at hy; subst hy; exact h
  | x :: z :: r, h, y, hy => by
    rcases List.mem_cons.1 hy with rfl | hy
    · exact h.1
    · exact stillAll_mem (st := z :: r) h.2 y hy

theorem act_core (hR : Region' P n ops xs σ) {e : Nat} {r : List Nat} {o : Oper} {x : IOper} (hI : Inv P C n ops xs σ K T0 R0 H0 w0 pre (e :: r) S rid T H R a w) (ho : ops[e]? = some o) (hx : xs[e]? = some x)
    (hco : CompOf P n ops o x) (hr : ∀ q ∈ o.after.toList, Region.binds .any q = true → S q.on) {v v' : Value} {R' : Ren} {H' : IHeap} {w' : World} (hvr : VR R' v v') (hsim : Sim R' H' w')
    (hext : Ext R H w R' H' w') (hrun : iwpDraw P C (layI xs (ancL ops.toList []) (pre ++ [e]) r) K (T.put x.dst v) H')
    (hstill : ∀ j ∈ pre, ¬ S j → ∀ y u, xs[j]? = some y → wantedI (EI ops (ancL ops.toList []) j T T0) y.guard = true → y.op.kind = .rd → ird P (EI ops (ancL ops.toList []) j T T0) H y.op = some u → (∀ d, y.dst = some d → T d = u) →
      ∃ u', ird P (EI ops (ancL ops.toList []) j T T0) H' y.op = some u' ∧ ∀ d, y.dst = some d → T d = u') :
    Inv P C n ops xs σ K T0 R0 H0 w0 (pre ++ [e]) r (fun k => S k ∨ k = e) rid (T.put x.dst v) H' R' (a.put o.dst v') w' := by
  have hni := notin_pre hR hI.sched
  have hdi : dstAt ops e = x.dst := by rw [dstAt_of ho, hco.dst]
  have hne : ∀ j ∈ pre, j ≠ e := fun j hj h => hni (h ▸ hj)
  have hei : ∀ j ∈ pre, EI ops (ancL ops.toList []) j (T.put x.dst v) T0 = EI ops (ancL ops.toList []) j T T0 := fun j hj => EI_put hR (hR.head hI.sched hj).2 hdi v
  have hpre : ∀ j, j ∈ pre ++ [e] → ¬ (S j ∨ j = e) → j ∈ pre ∧ ¬ S j := fun j hj hs => by
    rcases List.mem_append.1 hj with h | h
    · exact ⟨h, fun h' => hs (.inl h')⟩
    · simp at h; exact absurd (.inr h) hs
  have hmk : ∀ j ∈ pre, makes ops xs (T.put x.dst v) T0 j → makes ops xs T T0 j := by
    rintro j hj ⟨y, h1, h2, h3⟩
    rw [hei j hj] at h3
    exact ⟨y, h1, h2, h3⟩
  refine ⟨by rw [hI.sched]; simp, ?_, ?_, ?_, hrun, hsim, ?_, by rw [put_defers]; exact hI.defers, ?_, ?_, ?_, hI.ext.trans hext⟩
  · rintro j (h | rfl)
    · exact List.mem_append_left _ (hI.sub j h)
    · simp
  · rintro j oj hj (h | rfl) q hq hb
    · exact .inl (hI.closed j oj hj h q hq hb)
    · have : oj = o := by rw [ho] at hj; exact (Option.some.inj hj).symm
      subst this
      exact .inl (hr q hq hb)
  · intro j hj ha
    rcases List.mem_append.1 hj with h | h
    · exact .inl (hI.acts j h ha)
    · simp at h; exact .inr h
  · rw [ES_put hdi hR, ← hco.dst]
    exact (hI.tmps.mono hext.le).put (fun d hd => hco.lt d (by rw [← hco.dst]; exact hd)) hvr
  · intro d hd
    have : x.dst ≠ some d := by rw [← hdi]; exact hd e (by simp)
    rw [put_ne this]
    exact hI.old d fun j hj => hd j (List.mem_append_left _ hj)
  · intro j hj hsj y hy
    obtain ⟨h1, hsj'⟩ := hpre j hj hsj
    obtain ⟨u, h2, h3⟩ := hI.pend j h1 hsj' y hy
    have hd' : ∀ u, (∀ d, y.dst = some d → T d = u) → ∀ d, y.dst = some d → T.put x.dst v d = u := by
      intro u hu d hd
      rw [put_ne]
      · exact hu d hd
      · intro he
        obtain ⟨oj, yj, hoj, hyj, hcj⟩ := hR.get (hR.slt j (by rw [hI.sched]; exact List.mem_append_left _ h1))
        have hyy : yj = y := by rw [hy] at hyj; exact (Option.some.inj hyj).symm
        subst hyy
        have h4 : dstAt ops j = some d := by rw [dstAt_of hoj, ← hcj.dst]; exact hd
        rw [← hdi] at he
        exact hne j h1 (hR.uniq h4 he)
    cases hw : wantedI (EI ops (ancL ops.toList []) j T T0) y.guard with
    | false =>
      rw [hw] at h3
      exact ⟨u, hd' u h2, by rw [hei j h1, hw]; exact h3⟩
    | true =>
      rw [hw] at h3
      rcases h3 with ⟨h5, h6⟩ | ⟨h5, obj, mk, h6, h7, h8, h9, h10, h11⟩
      · obtain ⟨u', h12, h13⟩ := hstill j h1 hsj' y u hy hw h5 h6 h2
        exact ⟨u', hd' u' h13, by rw [hei j h1, hw]; exact .inl ⟨h5, h12⟩⟩
      · refine ⟨u, hd' u h2, ?_⟩
        rw [hei j h1, hw]
        refine .inr ⟨h5, obj, mk, h6, h7, by rw [hext.far _ h10 h9]; exact h8, fun hd => ?_, Nat.lt_of_lt_of_le h10 hext.next, h11⟩
        rcases hext.new _ hd with h12 | h12
        · exact h9 h12
        · omega
  · intro j hj k hk hsj hsk hmj hmk' he
    obtain ⟨h1, h1'⟩ := hpre j hj hsj
    obtain ⟨h2, h2'⟩ := hpre k hk hsk
    exact hI.inj j h1 k h2 h1' h2' (hmk j h1 hmj) (hmk k h2 hmk') he

theorem step_act (hC : CSim P C) (hR : Region' P n ops xs σ) {e : Nat} {r : List Nat} {o : Oper} (hI : Inv P C n ops xs σ K T0 R0 H0 w0 pre (e :: r) S rid T H R a w) (ho : ops[e]? = some o) (hact : actsAt xs e = true)
    (hr : ∀ q ∈ o.after.toList, Region.binds .any q = true → S q.on) {next : Act → World → Prop} {Q : Exit → Act → World → Prop}
    (hn : ∀ T' H' R' a' w', Inv P C n ops xs σ K T0 R0 H0 w0 (pre ++ [e]) r (fun k => S k ∨ k = e) rid T' H' R' a' w' → next a' w') : wpOp P ops Q e next a w := by
  obtain ⟨o', x, ho', hx, hco⟩ := hR.get (Array.getElem?_eq_some_iff.1 ho).1
  have : o' = o := by rw [ho] at ho'; exact (Option.some.inj ho').symm
  subst this
  have hni := notin_pre hR hI.sched
  have hns : ¬ S e := fun h => hni (hI.sub e h)
  have hag := agree_ready (T := T) (T0 := T0) hR hI.closed ho hr hns
  have hag2 := agree_head (T := T) (T0 := T0) hR hI.sched hI.old ho
  have hag3 : Agree ops o' T (ES ops S T T0) := fun d hd => (hag2 d hd).trans (hag d hd).symm
  have hxa : acts x = true := by unfold actsAt at hact; rw [hx] at hact; exact hact
  have hrun := hI.run
  simp only [layI, hx] at hrun
  unfold wpOp
  simp only [ho]
  rw [wanted_rel hI.tmps hco.guard hco.glt, ← hag3.guard hco]
  simp only [iwpDraw] at hrun
  cases hw : wantedI T x.guard with
  | false =>
    rw [hw] at hrun
    simp only [Bool.false_eq_true, if_false]
    exact hn _ _ R _ w (act_core hR hI ho hx hco hr (VR.undef R) hI.sim (Ext.refl _ _ _) hrun fun j hj hsj y u hy hw' hk hi hd => ⟨u, hi, hd⟩)
  | true =>
    rw [hw] at hrun
    simp only [if_true]
    simp only [] at hrun
    rw [hag3.iop hco] at hrun
    refine .inl (sim_op hC hI.sim hI.tmps hco.op hrun fun v v' R' H' w' hk hvr hsim hext => ?_)
    have hk2 : (∀ y ∈ againI xs (ancL ops.toList []) pre e, stillI P (T.put x.dst v) H' y) ∧ iwpDraw P C (layI xs (ancL ops.toList []) (pre ++ [e]) r) K (T.put x.dst v) H' := by
      generalize againI xs (ancL ops.toList []) pre e = st at hk
      cases st with
      | nil => exact ⟨by simp, hk⟩
      | cons y r => exact ⟨stillAll_mem hk.1, hk.2⟩
    refine hn _ H' R' _ w' (act_core hR hI ho hx hco hr hvr hsim hext hk2.2 ?_)
    intro j hj hsj y u hy hwj hkj hij hdj
    by_cases hl : y.op.looks = true
    · have hnw : waits (ancL ops.toList []) e j = false := by
        cases h : waits (ancL ops.toList []) e j with
        | false => rfl
        | true => exact absurd (waits_in hR.back hI.closed e o' j ho hr h) hsj
      have hmem : y ∈ againI xs (ancL ops.toList []) pre e := by
        simp only [againI, hx, hxa, if_true]
        refine List.mem_filterMap.2 ⟨j, hj, ?_⟩
        simp only [hy, seesHeap, hl, hnw, Bool.not_false, Bool.and_self, if_true]
      have hst := hk2.1 y hmem
      obtain ⟨oj, yj, hoj, hyj, hcj⟩ := hR.get (hR.slt j (by rw [hI.sched]; exact List.mem_append_left _ hj))
      have hyy : yj = y := by rw [hy] at hyj; exact (Option.some.inj hyj).symm
      subst hyy
      have hje : j ≠ e := fun h => hni (h ▸ hj)
      have hdi : dstAt ops e = x.dst := by rw [dstAt_of ho, hco.dst]
      have hsee : seesAt xs j = true := by unfold seesAt; rw [hy]; exact hl
      have hagj : Agree ops oj (T.put x.dst v) (EI ops (ancL ops.toList []) j (T.put x.dst v) T0) := by
        intro d hd
        by_cases h : ∃ k, waits (ancL ops.toList []) j k = true ∧ dstAt ops k = some d
        · rw [EI_pos h]
        · rw [EI_neg h]
          have hnow : ∀ k, dstAt ops k ≠ some d := by
            intro k hk'
            obtain ⟨ok, hok, hdk⟩ := dstAt_some hk'
            by_cases hkj' : k = j
            · subst hkj'
              have : ok = oj := by rw [hok] at hoj; exact Option.some.inj hoj
              subst this
              exact hR.own k ok d hok hdk hd
            · rcases (hR.tmp k j ok oj d hkj' hok hoj hdk).2 hd with h1 | ⟨_, h1⟩
              · exact h ⟨k, h1, hk'⟩
              · rw [hsee] at h1; cases h1
          rw [put_ne (by rw [← hdi]; exact hnow e)]
          exact hI.old d fun k _ => hnow k
      have hei : EI ops (ancL ops.toList []) j (T.put x.dst v) T0 = EI ops (ancL ops.toList []) j T T0 := EI_put hR (hR.head hI.sched hj).2 hdi v
      unfold stillI at hst
      rw [hagj.guard hcj, hei, hwj] at hst
      cases hyd : yj.dst with
      | some d =>
        rw [hyd] at hst
        simp only [] at hst
        rw [hagj.ird hcj, hei] at hst
        refine ⟨_, hst, fun d' hd' => ?_⟩
        injection hd' with hd'
        subst hd'
        rw [put_ne]
        intro he
        have h4 : dstAt ops j = some d := by rw [dstAt_of hoj, ← hcj.dst]; exact hyd
        rw [← hdi] at he
        exact hje (hR.uniq h4 he)
      | none =>
        rw [hyd] at hst
        simp only [] at hst
        rw [hagj.ird hcj, hei] at hst
        obtain ⟨u', hu'⟩ := Option.isSome_iff_exists.1 hst
        exact ⟨u', hu', by simp⟩
    · exact ⟨u, by rw [ird_far (H' := H) (by simpa using hl)]; exact hij, hdj⟩

end
end Go.Proofs.YtpklgklmjhblpaaI
