/- A region that draws its order: one order shows them all (the steps in the order). -/
import Derived.Test.YtpklgklmjhblpaaIdealO
namespace Go.Proofs.YtpklgklmjhblpaaI
set_option linter.unusedSimpArgs false
set_option linter.unusedVariables false
open Go

section
variable {P : Program} {C : CallT} {n : Nat} {ops : Array Oper} {xs : List IOper} {σ : List Nat}
variable {K : Env → IHeap → Prop} {T0 : Env} {R0 : Ren} {H0 : IHeap} {w0 : World} {pre rest : List Nat} {S : Nat → Prop} {rid : Nat → Nat} {T : Env} {H : IHeap} {R : Ren} {a : Act} {w : World}

theorem waits_lt (hb : edgesBack ops.toList 0 = true) : ∀ (i j : Nat) (o : Oper), ops[i]? = some o → waits (ancL ops.toList []) i j = true → j < i := by
  intro i
  induction i using Nat.strongRecOn with
  | _ i ih =>
    intro j o ho hw
    obtain ⟨e, _, _, hlt, h4⟩ := anc_spec hb ho hw
    rcases h4 with rfl | h4
    · exact hlt
    · have hlt' : e.on < ops.size := Nat.lt_trans hlt (Array.getElem?_eq_some_iff.1 ho).1
      exact Nat.lt_trans (ih e.on hlt j ops[e.on] (by simp [hlt']) h4) hlt

theorem waits_self (hb : edgesBack ops.toList 0 = true) {i : Nat} {o : Oper} (ho : ops[i]? = some o) : waits (ancL ops.toList []) i i = false := by
  cases h : waits (ancL ops.toList []) i i with
  | false => rfl
  | true => exact absurd (waits_lt hb i i o ho h) (Nat.lt_irrefl _)

theorem notin_pre (hR : Region' P n ops xs σ) {i : Nat} {r : List Nat} (hs : σ = pre ++ i :: r) : i ∉ pre := by
  intro hi
  have := hR.nodup
  rw [hs] at this
  exact (List.nodup_append.1 this).2.2 i hi i (by simp) rfl

theorem put_ne {T : Env} {d : Option Nat} {v : Value} {e : Nat} (h : d ≠ some e) : T.put d v e = T e := by
  cases d with
  | none => rfl
  | some d =>
    show (if e = d then v else T e) = T e
    rw [if_neg (fun he => h (by rw [he]))]
theorem put_eq {T : Env} {e : Nat} {v : Value} : T.put (some e) v e = v := by
  show (if e = e then v else T e) = v
  rw [if_pos rfl]

theorem ES_skip (hR : Region' P n ops xs σ) {i : Nat} (hns : ¬ S i) {d : Option Nat} (hd : dstAt ops i = d) (v : Value) : ES ops S (T.put d v) T0 = ES ops S T T0 := by
  funext e
  by_cases h : ∃ k, S k ∧ dstAt ops k = some e
  · rw [ES_pos h, ES_pos h]
    refine put_ne fun he => ?_
    obtain ⟨k, h1, h2⟩ := h
    rw [he] at hd
    exact hns (hR.uniq hd h2 ▸ h1)
  · rw [ES_neg h, ES_neg h]

/-- One step in the order, of one that turns nothing. -/
theorem adv_core (hR : Region' P n ops xs σ) {i : Nat} {r : List Nat} {o : Oper} {x : IOper} {v : Value} {H1 : IHeap} {rid' : Nat → Nat}
    (hI : Inv P C n ops xs σ K T0 R0 H0 w0 pre (i :: r) S rid T H R a w) (ho : ops[i]? = some o) (hx : xs[i]? = some x) (hco : CompOf P n ops o x) (hna : actsAt xs i = false)
    (hsub : H.sub H1) (hnext : H.next ≤ H1.next) (hsim : Sim R H1 w) (hext : Ext R0 H0 w0 R H1 w) (hrun : iwpDraw P C (layI xs (ancL ops.toList []) (pre ++ [i]) r) K (T.put x.dst v) H1)
    (hrid : ∀ j ∈ pre, rid' j = rid j) (hridi : makes ops xs (T.put x.dst v) T0 i → rid' i = H.next)
    (hp : Pend P ops xs H0.next (T.put x.dst v) T0 H1 R rid' i) : Inv P C n ops xs σ K T0 R0 H0 w0 (pre ++ [i]) r S rid' (T.put x.dst v) H1 R a w := by
  have hni := notin_pre hR hI.sched
  have hns : ¬ S i := fun h => hni (hI.sub i h)
  have hdi : dstAt ops i = x.dst := by rw [dstAt_of ho, hco.dst]
  have hne : ∀ j ∈ pre, j ≠ i := fun j hj e => hni (e ▸ hj)
  have hei : ∀ j ∈ pre, EI ops (ancL ops.toList []) j (T.put x.dst v) T0 = EI ops (ancL ops.toList []) j T T0 := fun j hj => EI_put hR (hR.head hI.sched hj).2 hdi v
  have hmk : ∀ j ∈ pre, makes ops xs (T.put x.dst v) T0 j → makes ops xs T T0 j := by
    rintro j hj ⟨y, h1, h2, h3⟩
    rw [hei j hj] at h3
    exact ⟨y, h1, h2, h3⟩
  have hlt : ∀ j ∈ pre, ¬ S j → makes ops xs T T0 j → rid j < H.next := by
    rintro j hj hsj ⟨y, h1, h2, h3⟩
    obtain ⟨u, _, h4⟩ := hI.pend j hj hsj y h1
    rw [h3] at h4
    rcases h4 with ⟨h5, _⟩ | ⟨_, _, _, _, _, _, _, h6⟩
    · rw [h2] at h5; cases h5
    · exact h6.1
  refine ⟨by rw [hI.sched]; simp, fun j hj => List.mem_append_left _ (hI.sub j hj), hI.closed, ?_, hrun, hsim, ?_, hI.defers, ?_, ?_, ?_, hext⟩
  · intro j hj ha
    rcases List.mem_append.1 hj with h1 | h1
    · exact hI.acts j h1 ha
    · simp at h1; subst h1; rw [hna] at ha; cases ha
  · rw [ES_skip hR hns hdi]; exact hI.tmps
  · intro d hd
    have : x.dst ≠ some d := by rw [← hdi]; exact hd i (by simp)
    rw [put_ne this]
    exact hI.old d fun j hj => hd j (List.mem_append_left _ hj)
  · intro j hj hsj
    rcases List.mem_append.1 hj with h1 | h1
    · intro y hy
      obtain ⟨u, h2, h3⟩ := hI.pend j h1 hsj y hy
      refine ⟨u, fun d hd => ?_, ?_⟩
      · rw [put_ne]
        · exact h2 d hd
        · intro he
          obtain ⟨oj, yj, hoj, hyj, hcj⟩ := hR.get (hR.slt j (by rw [hI.sched]; exact List.mem_append_left _ h1))
          have hyy : yj = y := by rw [hy] at hyj; exact (Option.some.inj hyj).symm
          subst hyy
          have h4 : dstAt ops j = some d := by rw [dstAt_of hoj, ← hcj.dst]; exact hd
          rw [← hdi] at he
          exact hne j h1 (hR.uniq h4 he)
      · rw [hei j h1, hrid j h1]
        cases hw : wantedI (EI ops (ancL ops.toList []) j T T0) y.guard with
        | false => rw [hw] at h3; exact h3
        | true =>
          rw [hw] at h3
          rcases h3 with ⟨h5, h6⟩ | ⟨h5, obj, mk, h6, h7, h8, h9, h10⟩
          · exact .inl ⟨h5, ird_mono hsub h6⟩
          · exact .inr ⟨h5, obj, mk, h6, h7, hsub _ _ h8, h9, Nat.lt_of_lt_of_le h10.1 hnext, h10.2⟩
    · simp at h1; subst h1; exact hp
  · intro j hj k hk hsj hsk hmj hmk' he
    rcases List.mem_append.1 hj with h1 | h1 <;> rcases List.mem_append.1 hk with h2 | h2
    · rw [hrid j h1, hrid k h2] at he
      exact hI.inj j h1 k h2 hsj hsk (hmk j h1 hmj) (hmk k h2 hmk') he
    · simp at h2; subst h2
      rw [hrid j h1, hridi hmk'] at he
      have := hlt j h1 hsj (hmk j h1 hmj)
      omega
    · simp at h1; subst h1
      rw [hrid k h2, hridi hmj] at he
      have := hlt k h2 hsk (hmk k h2 hmk')
      omega
    · simp at h1 h2; rw [h1, h2]

theorem adv1 (hR : Region' P n ops xs σ) {i : Nat} {r : List Nat} (hI : Inv P C n ops xs σ K T0 R0 H0 w0 pre (i :: r) S rid T H R a w) (hna : actsAt xs i = false) :
    ∃ T1 H1 rid1, Inv P C n ops xs σ K T0 R0 H0 w0 (pre ++ [i]) r S rid1 T1 H1 R a w := by
  obtain ⟨o, x, ho, hx, hco⟩ := hR.get (hR.slt i (by rw [hI.sched]; simp))
  have hnact : acts x = false := by unfold actsAt at hna; rw [hx] at hna; exact hna
  have hrun := hI.run
  simp only [layI, hx, againI, hnact, Bool.false_eq_true, if_false, iwpDraw] at hrun
  have hag := agree_head (T := T) (T0 := T0) hR hI.sched hI.old ho
  have hdi : dstAt ops i = x.dst := by rw [dstAt_of ho, hco.dst]
  have hei : ∀ v, EI ops (ancL ops.toList []) i (T.put x.dst v) T0 = EI ops (ancL ops.toList []) i T T0 := fun v => EI_put hR (waits_self hR.back ho) hdi v
  have hput : ∀ v d, x.dst = some d → T.put x.dst v d = v := fun v d hd => by rw [hd]; exact put_eq
  have hpend : ∀ (v : Value) (H1 : IHeap) (rid' : Nat → Nat), (match wantedI T x.guard with
      | false => v = undef
      | true => (x.op.kind = .rd ∧ ird P T H1 x.op = some v) ∨ (x.op.kind = .al ∧ ∃ obj mk, ial T x.op = some (obj, mk) ∧ v = mk (rid' i) ∧ H1.get (rid' i) = some obj ∧ ¬ R.dom (rid' i) ∧ rid' i < H1.next ∧ H0.next ≤ rid' i)) →
      Pend P ops xs H0.next (T.put x.dst v) T0 H1 R rid' i := by
    intro v H1 rid' h y hy
    rw [hx] at hy
    injection hy with hy
    subst hy
    refine ⟨v, hput v, ?_⟩
    rw [hei v, ← hag.guard hco, ← hag.ird hco, ← hag.ial hco]
    exact h
  cases hw : wantedI T x.guard with
  | false =>
    rw [hw] at hrun
    refine ⟨T.put x.dst undef, H, rid, adv_core hR hI ho hx hco hna (fun _ _ h => h) (Nat.le_refl _) hI.sim hI.ext hrun (fun _ _ => rfl) ?_ (hpend _ _ _ (by rw [hw]))⟩
    rintro ⟨y, h1, h2, h3⟩
    rw [hx] at h1; injection h1 with h1; subst h1
    rw [hei, ← hag.guard hco, hw] at h3; cases h3
  | true =>
    rw [hw] at hrun
    unfold iop at hrun
    cases hk : x.op.kind with
    | rd =>
      rw [hk] at hrun
      obtain ⟨v, h1, h2⟩ := hrun
      refine ⟨T.put x.dst v, H, rid, adv_core hR hI ho hx hco hna (fun _ _ h => h) (Nat.le_refl _) hI.sim hI.ext h2 (fun _ _ => rfl) ?_ (hpend _ _ _ (by rw [hw]; exact .inl ⟨hk, h1⟩))⟩
      rintro ⟨y, h3, h4, _⟩
      rw [hx] at h3; injection h3 with h3; subst h3
      rw [hk] at h4; cases h4
    | al =>
      rw [hk] at hrun
      obtain ⟨⟨obj, mk⟩, h1, h2⟩ := hrun
      have hsub : H.sub (H.alloc obj) := by
        intro b q hb
        have hlt : b < H.next := by
          rcases Nat.lt_or_ge b H.next with h | h
          · exact h
          · rw [hI.sim.wf b h] at hb; cases hb
        rw [alloc_get_lt H obj hlt]; exact hb
      have hnd : ¬ R.dom H.next := fun h => Nat.lt_irrefl _ (hI.sim.lt _ h)
      have hext : Ext R0 H0 w0 R (H.alloc obj) w := by
        refine hI.ext.trans ⟨R.le_refl, Nat.le_succ _, fun b hb => .inl hb, fun b hb _ => alloc_get_lt H obj hb, fun b cs hg hb => by rw [alloc_get_lt H obj hb]; exact hg, fun _ _ _ => rfl, fun b hb hl => .inr ⟨b, hb, ?_, rfl⟩, Nat.le_refl _, rfl, rfl, rfl⟩
        unfold liveRW at hl ⊢
        rw [alloc_get_lt H obj (hI.sim.lt b hb)] at hl
        exact hl
      have hni := notin_pre hR hI.sched
      refine ⟨T.put x.dst (mk H.next), H.alloc obj, fun j => if j = i then H.next else rid j, adv_core hR hI ho hx hco hna hsub (Nat.le_succ _) (hI.sim.alloc_far obj) hext h2 (fun j hj => ?_) (fun _ => by simp)
        (hpend _ _ _ (by rw [hw]; exact .inr ⟨hk, obj, mk, h1, by simp, by simp [alloc_get], by simpa using hnd, by simp [IHeap.alloc], by simpa using hI.ext.next⟩))⟩
      rw [if_neg (fun e : j = i => hni (e ▸ hj))]
    | ac => unfold acts at hnact; rw [hk] at hnact; simp at hnact
    | ca => unfold acts at hnact; rw [hk] at hnact; simp at hnact

/-- On to the next one that acts. -/
theorem advance (hR : Region' P n ops xs σ) : ∀ (rest pre : List Nat) (rid : Nat → Nat) (T : Env) (H : IHeap), Inv P C n ops xs σ K T0 R0 H0 w0 pre rest S rid T H R a w →
    ∃ pre' rest' rid' T' H', Inv P C n ops xs σ K T0 R0 H0 w0 pre' rest' S rid' T' H' R a w ∧ ∀ i r, rest' = i :: r → actsAt xs i = true
  | [], pre, rid, T, H, hI => ⟨pre, [], rid, T, H, hI, by simp⟩
  | i :: r, pre, rid, T, H, hI => by
    cases ha : actsAt xs i with
    | true => exact ⟨pre, i :: r, rid, T, H, hI, fun j q h => by injection h with h1 _; subst h1; exact ha⟩
    | false =>
      obtain ⟨T1, H1, rid1, h1⟩ := adv1 hR hI ha
      exact advance hR r (pre ++ [i]) rid1 T1 H1 h1

end
end Go.Proofs.YtpklgklmjhblpaaI
