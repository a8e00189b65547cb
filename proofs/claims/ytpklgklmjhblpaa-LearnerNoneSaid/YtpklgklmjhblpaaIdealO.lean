/- A region that draws its order: one order shows them all (the invariant, its steps). -/
import Derived.Test.YtpklgklmjhblpaaIdealN
namespace Go.Proofs.YtpklgklmjhblpaaI
set_option linter.unusedSimpArgs false
set_option linter.unusedVariables false
open Go
open Classical in
/-- What the slots hold where those of S have come up. -/
noncomputable def ES (ops : Array Oper) (S : Nat → Prop) (T T0 : Env) : Env := fun d => if ∃ i, S i ∧ dstAt ops i = some d then T d else T0 d
open Classical in
/-- What an operation sees of the slots. -/
noncomputable def EI (ops : Array Oper) (anc : List Nat) (i : Nat) (T T0 : Env) : Env := fun d => if ∃ j, waits anc i j = true ∧ dstAt ops j = some d then T d else T0 d

theorem ES_pos {ops : Array Oper} {S : Nat → Prop} {T T0 : Env} {d : Nat} (h : ∃ i, S i ∧ dstAt ops i = some d) : ES ops S T T0 d = T d := by unfold ES; rw [if_pos h]
theorem ES_neg {ops : Array Oper} {S : Nat → Prop} {T T0 : Env} {d : Nat} (h : ¬ ∃ i, S i ∧ dstAt ops i = some d) : ES ops S T T0 d = T0 d := by unfold ES; rw [if_neg h]
theorem EI_pos {ops : Array Oper} {anc : List Nat} {i : Nat} {T T0 : Env} {d : Nat} (h : ∃ j, waits anc i j = true ∧ dstAt ops j = some d) : EI ops anc i T T0 d = T d := by unfold EI; rw [if_pos h]
theorem EI_neg {ops : Array Oper} {anc : List Nat} {i : Nat} {T T0 : Env} {d : Nat} (h : ¬ ∃ j, waits anc i j = true ∧ dstAt ops j = some d) : EI ops anc i T T0 d = T0 d := by unfold EI; rw [if_neg h]

/-- What has been checked of a region. -/
structure Region' (P : Program) (n : Nat) (ops : Array Oper) (xs : List IOper) (σ : List Nat) : Prop where
  comp : ∀ (i : Nat) (o : Oper), ops[i]? = some o → ∃ x, xs[i]? = some x ∧ CompOf P n ops o x
  len : xs.length = ops.size
  back : edgesBack ops.toList 0 = true
  slen : σ.length = ops.size
  nodup : σ.Nodup
  slt : ∀ i ∈ σ, i < ops.size
  ord : okOrd xs (ancL ops.toList []) [] σ = true
  tmp : ∀ (i j : Nat) (oi oj : Oper) (d : Nat), i ≠ j → ops[i]? = some oi → ops[j]? = some oj → oi.dst = some d → oj.dst ≠ some d ∧
    (d ∈ readsI ops oj → waits (ancL ops.toList []) j i = true ∨ (waits (ancL ops.toList []) i j = true ∧ seesAt xs j = false))
  own : ∀ (i : Nat) (o : Oper) (d : Nat), ops[i]? = some o → o.dst = some d → d ∉ readsI ops o

theorem okOrd_split {xs : List IOper} {anc : List Nat} : ∀ (r pre q : List Nat), okOrd xs anc pre (q ++ r) = true → okOrd xs anc (pre ++ q) r = true
  | r, pre, [], h => by simpa using h
  | r, pre, i :: q, h => by
    simp only [List.cons_append, okOrd, Bool.and_eq_true] at h
    have := okOrd_split r (pre ++ [i]) q h.2
    simpa using this

section
variable {P : Program} {C : CallT} {n : Nat} {ops : Array Oper} {xs : List IOper} {σ : List Nat}

theorem Region'.head (h : Region' P n ops xs σ) {pre rest : List Nat} {i : Nat} (hs : σ = pre ++ i :: rest) {j : Nat} (hj : j ∈ pre) :
    (actsAt xs j = true → waits (ancL ops.toList []) i j = true) ∧ waits (ancL ops.toList []) j i = false := by
  have ho := h.ord
  rw [hs] at ho
  have := okOrd_split (i :: rest) [] pre ho
  simp only [List.nil_append, okOrd, Bool.and_eq_true] at this
  have h1 := List.all_eq_true.1 this.1 j hj
  simp only [Bool.and_eq_true, Bool.or_eq_true, Bool.not_eq_true'] at h1
  refine ⟨fun ha => ?_, h1.2⟩
  rcases h1.1 with h2 | h2
  · rw [ha] at h2; cases h2
  · exact h2

theorem Region'.get (h : Region' P n ops xs σ) {i : Nat} (hi : i < ops.size) : ∃ o x, ops[i]? = some o ∧ xs[i]? = some x ∧ CompOf P n ops o x := by
  obtain ⟨x, h1, h2⟩ := h.comp i ops[i] (by simp [hi])
  exact ⟨ops[i], x, by simp [hi], h1, h2⟩

theorem dstAt_some {i d : Nat} (h : dstAt ops i = some d) : ∃ o, ops[i]? = some o ∧ o.dst = some d := by
  unfold dstAt at h
  cases ho : ops[i]? with
  | none => rw [ho] at h; cases h
  | some o => rw [ho] at h; exact ⟨o, rfl, h⟩
theorem dstAt_of {i : Nat} {o : Oper} (h : ops[i]? = some o) : dstAt ops i = o.dst := by unfold dstAt; rw [h]; rfl

theorem Region'.uniq (h : Region' P n ops xs σ) {i j d : Nat} (h1 : dstAt ops i = some d) (h2 : dstAt ops j = some d) : i = j := by
  obtain ⟨oi, hi, hdi⟩ := dstAt_some h1
  obtain ⟨oj, hj, hdj⟩ := dstAt_some h2
  by_cases he : i = j
  · exact he
  · exact absurd hdj (h.tmp i j oi oj d he hi hj hdi).1

/-- What stands to come up, of one that has been gone through. -/
def Pend (P : Program) (ops : Array Oper) (xs : List IOper) (b0 : Nat) (T T0 : Env) (H : IHeap) (R : Ren) (rid : Nat → Nat) (i : Nat) : Prop :=
  ∀ x, xs[i]? = some x → ∃ v, (∀ d, x.dst = some d → T d = v) ∧ match wantedI (EI ops (ancL ops.toList []) i T T0) x.guard with
    | false => v = undef
    | true => (x.op.kind = .rd ∧ ird P (EI ops (ancL ops.toList []) i T T0) H x.op = some v) ∨
      (x.op.kind = .al ∧ ∃ obj mk, ial (EI ops (ancL ops.toList []) i T T0) x.op = some (obj, mk) ∧ v = mk (rid i) ∧ H.get (rid i) = some obj ∧ ¬ R.dom (rid i) ∧ rid i < H.next ∧ b0 ≤ rid i)

/-- Does it make something? -/
def makes (ops : Array Oper) (xs : List IOper) (T T0 : Env) (i : Nat) : Prop := ∃ x, xs[i]? = some x ∧ x.op.kind = .al ∧ wantedI (EI ops (ancL ops.toList []) i T T0) x.guard = true

structure Inv (P : Program) (C : CallT) (n : Nat) (ops : Array Oper) (xs : List IOper) (σ : List Nat) (K : Env → IHeap → Prop) (T0 : Env) (R0 : Ren) (H0 : IHeap) (w0 : World)
    (pre rest : List Nat) (S : Nat → Prop) (rid : Nat → Nat) (T : Env) (H : IHeap) (R : Ren) (a : Act) (w : World) : Prop where
  sched : σ = pre ++ rest
  sub : ∀ i, S i → i ∈ pre
  closed : Cl ops S
  acts : ∀ i ∈ pre, actsAt xs i = true → S i
  run : iwpDraw P C (layI xs (ancL ops.toList []) pre rest) K T H
  sim : Sim R H w
  tmps : TRel n R (ES ops S T T0) a.tmps
  defers : a.defers = []
  old : ∀ d, (∀ i ∈ pre, dstAt ops i ≠ some d) → T d = T0 d
  pend : ∀ i ∈ pre, ¬ S i → Pend P ops xs H0.next T T0 H R rid i
  inj : ∀ i ∈ pre, ∀ j ∈ pre, ¬ S i → ¬ S j → makes ops xs T T0 i → makes ops xs T T0 j → rid i = rid j → i = j
  ext : Ext R0 H0 w0 R H w

variable {K : Env → IHeap → Prop} {T0 : Env} {R0 : Ren} {H0 : IHeap} {w0 : World} {pre rest : List Nat} {S : Nat → Prop} {rid : Nat → Nat} {T : Env} {H : IHeap} {R : Ren} {a : Act} {w : World}

/-- One that may come up sees what it saw. -/
theorem agree_ready (hR : Region' P n ops xs σ) (hcl : Cl ops S) {i : Nat} {o : Oper} (ho : ops[i]? = some o) (hr : ∀ e ∈ o.after.toList, Region.binds .any e = true → S e.on) (hns : ¬ S i) :
    Agree ops o (ES ops S T T0) (EI ops (ancL ops.toList []) i T T0) := by
  intro d hd
  by_cases h : ∃ j, waits (ancL ops.toList []) i j = true ∧ dstAt ops j = some d
  · obtain ⟨j, h1, h2⟩ := h
    rw [EI_pos ⟨j, h1, h2⟩, ES_pos ⟨j, waits_in hR.back hcl i o j ho hr h1, h2⟩]
  · rw [EI_neg h, ES_neg]
    rintro ⟨j, h1, h2⟩
    obtain ⟨oj, hj, hdj⟩ := dstAt_some h2
    have hji : j ≠ i := fun e => hns (e ▸ h1)
    rcases (hR.tmp j i oj o d hji hj ho hdj).2 hd with h3 | ⟨h3, _⟩
    · exact h ⟨j, h3, h2⟩
    · exact hns (waits_of hR.back hcl hj h1 h3)

/-- The next one in the order sees what it will have seen. -/
theorem agree_head (hR : Region' P n ops xs σ) {i : Nat} {r : List Nat} (hs : σ = pre ++ i :: r) (hold : ∀ d, (∀ j ∈ pre, dstAt ops j ≠ some d) → T d = T0 d) {o : Oper} (ho : ops[i]? = some o) :
    Agree ops o T (EI ops (ancL ops.toList []) i T T0) := by
  intro d hd
  by_cases h : ∃ j, waits (ancL ops.toList []) i j = true ∧ dstAt ops j = some d
  · rw [EI_pos h]
  · rw [EI_neg h]
    refine hold d fun j hj h2 => ?_
    obtain ⟨oj, hoj, hdj⟩ := dstAt_some h2
    have hji : j ≠ i := by
      rintro rfl
      have := hR.nodup
      rw [hs] at this
      have := (List.nodup_append.1 this).2.2 j hj j (by simp)
      exact this rfl
    rcases (hR.tmp j i oj o d hji hoj ho hdj).2 hd with h3 | ⟨h3, _⟩
    · exact h ⟨j, h3, h2⟩
    · rw [(hR.head hs hj).2] at h3; cases h3

/-- What one sees of a slot that a later one writes. -/
theorem EI_put (hR : Region' P n ops xs σ) {i j : Nat} (hw : waits (ancL ops.toList []) i j = false) {d : Option Nat} (hd : dstAt ops j = d) (v : Value) :
    EI ops (ancL ops.toList []) i (T.put d v) T0 = EI ops (ancL ops.toList []) i T T0 := by
  funext e
  by_cases h : ∃ k, waits (ancL ops.toList []) i k = true ∧ dstAt ops k = some e
  · rw [EI_pos h, EI_pos h]
    cases d with
    | none => rfl
    | some d =>
      show (if e = d then v else T e) = T e
      rw [if_neg]
      rintro rfl
      obtain ⟨k, h1, h2⟩ := h
      rw [hR.uniq h2 hd] at h1
      rw [hw] at h1; cases h1
  · rw [EI_neg h, EI_neg h]

theorem ES_put {i : Nat} {d : Option Nat} (hd : dstAt ops i = d) (hR : Region' P n ops xs σ) (v : Value) : ES ops (fun k => S k ∨ k = i) (T.put d v) T0 = (ES ops S T T0).put d v := by
  funext e
  cases d with
  | none =>
    show ES ops (fun k => S k ∨ k = i) T T0 e = ES ops S T T0 e
    by_cases h : ∃ k, S k ∧ dstAt ops k = some e
    · obtain ⟨k, h1, h2⟩ := h
      rw [ES_pos ⟨k, h1, h2⟩, ES_pos ⟨k, .inl h1, h2⟩]
    · rw [ES_neg h, ES_neg]
      rintro ⟨k, h1 | rfl, h2⟩
      · exact h ⟨k, h1, h2⟩
      · rw [hd] at h2; cases h2
  | some d =>
    show ES ops (fun k => S k ∨ k = i) (fun t => if t = d then v else T t) T0 e = if e = d then v else ES ops S T T0 e
    by_cases he : e = d
    · subst he
      rw [ES_pos ⟨i, .inr rfl, hd⟩, if_pos rfl, if_pos rfl]
    · rw [if_neg he]
      by_cases h : ∃ k, S k ∧ dstAt ops k = some e
      · obtain ⟨k, h1, h2⟩ := h
        rw [ES_pos ⟨k, h1, h2⟩, ES_pos ⟨k, .inl h1, h2⟩, if_neg he]
      · rw [ES_neg h, ES_neg]
        rintro ⟨k, h1 | rfl, h2⟩
        · exact h ⟨k, h1, h2⟩
        · rw [hd] at h2; injection h2 with h2; exact he h2.symm

/-- A slot that holds already what is put into it. -/
theorem ES_same {i : Nat} {d : Option Nat} (hd : dstAt ops i = d) (hR : Region' P n ops xs σ) {v : Value} (hv : ∀ k, d = some k → T k = v) : ES ops (fun k => S k ∨ k = i) T T0 = (ES ops S T T0).put d v := by
  have : T = T.put d v := by
    funext e
    cases d with
    | none => rfl
    | some d =>
      show T e = if e = d then v else T e
      by_cases he : e = d
      · rw [if_pos he, he]; exact hv d rfl
      · rw [if_neg he]
  calc ES ops (fun k => S k ∨ k = i) T T0 = ES ops (fun k => S k ∨ k = i) (T.put d v) T0 := by rw [← this]
    _ = _ := ES_put hd hR v

end
end Go.Proofs.YtpklgklmjhblpaaI
