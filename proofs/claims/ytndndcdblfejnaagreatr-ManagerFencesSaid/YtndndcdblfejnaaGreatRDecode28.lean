/- A law's arguments, decoded. / Commands, groups and deeds as arguments. -/
import Derived.Test.YtndndcdblfejnaaGreatRIdealY
import Derived.Test.YtndndcdblfejnaaGreatRMgH
namespace Go.Proofs.YtndndcdblfejnaaGreatRI
set_option linter.unusedSimpArgs false
set_option linter.unusedVariables false
open Go

section
variable {H : IHeap}

theorem okDs_i {k : IntKind} {sh : List Sh} {d : List D} (h : okDs (.i k :: sh) d) : ∃ n d', d = .i k n :: d' ∧ (Lit.int k n).wf = true ∧ okDs sh d' := by
  cases d with
  | nil => simp [okDs] at h
  | cons x d =>
    simp only [okDs] at h
    cases x <;> simp only [okD] at h <;> first | exact h.1.elim | skip
    obtain ⟨⟨rfl, h1⟩, h2⟩ := h
    exact ⟨_, _, rfl, h1, h2⟩
theorem okDs_s {sh : List Sh} {d : List D} (h : okDs (.s :: sh) d) : ∃ x d', d = .s x :: d' ∧ x.size ≤ reachBytes ∧ okDs sh d' := by
  cases d with
  | nil => simp [okDs] at h
  | cons y d =>
    simp only [okDs] at h
    cases y <;> simp only [okD] at h <;> first | exact h.1.elim | skip
    exact ⟨_, _, rfl, h.1, h.2⟩
theorem okDs_b {sh : List Sh} {d : List D} (h : okDs (.b :: sh) d) : ∃ x d', d = .b x :: d' ∧ okDs sh d' := by
  cases d with
  | nil => simp [okDs] at h
  | cons y d =>
    simp only [okDs] at h
    cases y <;> simp only [okD] at h <;> first | exact h.1.elim | skip
    exact ⟨_, _, rfl, h.2⟩
theorem okDs_nil {d : List D} (h : okDs [] d) : d = [] := by cases d <;> simp [okDs] at h; rfl
theorem okDs_sl {by' size : Nat} {e sh : List Sh} {d : List D} (h : okDs (.sl by' size e :: sh) d) : ∃ x d', d = x :: d' ∧ okD (.sl by' size e) x ∧ okDs sh d' := by
  cases d with
  | nil => simp [okDs] at h
  | cons y d => simp only [okDs] at h; exact ⟨y, d, rfl, h⟩

theorem Reps.cons_inv {vs : List Value} {x : D} {ds : List D} (h : Reps H vs (x :: ds)) : ∃ v vs', vs = v :: vs' ∧ Rep H v x ∧ Reps H vs' ds := by
  cases vs with
  | nil => have := h.1; simp at this
  | cons v vs => exact ⟨v, vs, rfl, h.2 0 v x (by simp) (by simp), by simpa using h.1, fun j u e h1 h2 => h.2 (j + 1) u e (by simpa using h1) (by simpa using h2)⟩
theorem Reps.nil_inv {vs : List Value} (h : Reps H vs []) : vs = [] := by have := h.1; simpa using this
theorem Rep.i_inv {v : Value} {k : IntKind} {n : Int} (h : Rep H v (.i k n)) : v = .int k n := by cases h; rfl
theorem Rep.s_inv {v : Value} {x : ByteArray} (h : Rep H v (.s x)) : v = .string x := by cases h; rfl
theorem Rep.b_inv {v : Value} {x : Bool} (h : Rep H v (.b x)) : v = .bool x := by cases h; rfl

theorem ArgsOk.cons_inv {a : Bool} {sh : List Sh} {r : List (Bool × List Sh)} {vs : List Value} {dss : List (List D)} (h : ArgsOk H ((a, sh) :: r) vs dss) :
    ∃ v vs' d dss', vs = v :: vs' ∧ dss = d :: dss' ∧ ArgRep H a v d ∧ okDs sh d ∧ ArgsOk H r vs' dss' := by
  match vs, dss, h with
  | [], [], h => exact h.elim
  | v :: vs, [], h => exact h.elim
  | [], _ :: _, h => exact h.elim
  | v :: vs, d :: dss, h => exact ⟨v, vs, d, dss, rfl, rfl, h⟩
theorem ArgsOk.nil_inv {vs : List Value} {dss : List (List D)} (h : ArgsOk H [] vs dss) : vs = [] := by
  match vs, dss, h with
  | [], [], _ => rfl
  | _ :: _, _, h => exact h.elim
  | [], _ :: _, h => exact h.elim

/-- An int. -/
theorem arg_i {k : IntKind} {v : Value} {d : List D} (h : ArgRep H false v d) (ho : okDs [.i k] d) : ∃ n, v = .int k n ∧ (Lit.int k n).wf = true := by
  obtain ⟨n, d', rfl, hw, h2⟩ := okDs_i ho
  obtain rfl := okDs_nil h2
  obtain ⟨u, us, e, h3, h4⟩ := Reps.cons_inv h
  injection e with e1 e2
  subst e1
  exact ⟨n, h3.i_inv, hw⟩
/-- A text. -/
theorem arg_s {v : Value} {d : List D} (h : ArgRep H false v d) (ho : okDs [.s] d) : ∃ x, v = .string x ∧ x.size ≤ reachBytes := by
  obtain ⟨n, d', rfl, hw, h2⟩ := okDs_s ho
  obtain rfl := okDs_nil h2
  obtain ⟨u, us, e, h3, h4⟩ := Reps.cons_inv h
  injection e with e1 e2
  subst e1
  exact ⟨n, h3.s_inv, hw⟩

theorem Reps.seg {vs : List Value} {ds : List D} (h : Reps H vs ds) (k m : Nat) : Reps H ((vs.drop k).take m) ((ds.drop k).take m) := by
  refine ⟨by simp [h.1], fun j v d h1 h2 => ?_⟩
  rw [List.getElem?_take] at h1 h2
  split at h1
  · rename_i hj
    rw [if_pos hj] at h2
    rw [List.getElem?_drop] at h1 h2
    exact h.2 _ v d h1 h2
  · cases h1

omit H in
theorem flat_seg : ∀ (es : List (List D)) (size i : Nat), (∀ d ∈ es, d.length = size) → ∀ hi : i < es.length, (es.flatten.drop (i * size)).take size = es[i] ∧ i * size + size ≤ es.flatten.length
  | [], _, i, _, hi => by simp at hi
  | d :: es, size, 0, h, _ => by
    have := h d (by simp)
    simp only [List.flatten_cons, Nat.zero_mul, List.drop_zero, List.getElem_cons_zero, List.length_append, Nat.zero_add]
    exact ⟨by rw [← this, List.take_left], by omega⟩
  | d :: es, size, i + 1, h, hi => by
    have h0 := h d (by simp)
    obtain ⟨h1, h2⟩ := flat_seg es size i (fun x hx => h x (by simp [hx])) (by simpa using hi)
    simp only [List.flatten_cons, List.getElem_cons_succ, List.length_append]
    have e : (i + 1) * size = d.length + i * size := by rw [h0, Nat.add_mul]; omega
    refine ⟨?_, by omega⟩
    rw [e, List.drop_append, List.drop_eq_nil_of_le (by omega), List.nil_append, Nat.add_sub_cancel_left]
    exact h1

/-- A slice's rows. -/
theorem arg_sl {by' size : Nat} {e : List Sh} {v : Value} {d : List D} (wf : ∀ b, H.next ≤ b → H.get b = none) (h : ArgRep H false v d) (ho : okDs [.sl by' size e] d) :
    ∃ rows : List (List Value), SlR H size v rows ∧ rows.length * by' ≤ reachBytes ∧ rows.length ≤ maxLen ∧ ∀ r ∈ rows, ∃ ds, Reps H r ds ∧ okDs e ds := by
  obtain ⟨x, d', rfl, hx, h2⟩ := okDs_sl ho
  obtain rfl := okDs_nil h2
  obtain ⟨u, us, eq, h3, h4⟩ := Reps.cons_inv h
  injection eq with e1 e2
  subst e1
  cases h3 with
  | b x => simp [okD] at hx
  | i k n => simp [okD] at hx
  | s x => simp [okD] at hx
  | nil => exact ⟨[], ⟨none, 0, rfl, fun h => absurd rfl h⟩, by simp, by simp, by simp⟩
  | z id o => exact ⟨[], ⟨_, 0, rfl, fun h => absurd rfl h⟩, by simp, by simp, by simp⟩
  | sl id len es vs hne hunk hget hvl hreps =>
    simp only [okD] at hx
    obtain ⟨hle, hby, hmax, hes⟩ := hx
    have hR : Reps H vs es.flatten := ⟨hvl, hreps⟩
    have hrow : ∀ i, i < len → (((List.range len).map fun i => (vs.drop (i * size)).take size)[i]? = some ((vs.drop (i * size)).take size)) := by
      intro i hi; simp [hi]
    have hseg := fun i (hi : i < es.length) => flat_seg es size i (fun d hd => (hes d hd).1) hi
    refine ⟨(List.range len).map fun i => (vs.drop (i * size)).take size, ⟨some ⟨id, 0, none⟩, es.length, by simp, fun _ => ⟨id, 0, vs, true, rfl, ?_, hget, ?_⟩⟩, ?_, by simp; omega, ?_⟩
    · rcases Nat.lt_or_ge id H.next with h | h
      · exact h
      · rw [wf id h] at hget; cases hget
    · intro i r hr
      have hi : i < len := by have := (List.getElem?_eq_some_iff.1 hr).1; simpa using this
      rw [hrow i hi] at hr
      injection hr with hr
      subst hr
      have h5 := (hseg i (by omega)).2
      refine ⟨by simp; omega, by simp, by omega⟩
    · simp only [List.length_map, List.length_range]
      exact Nat.le_trans (Nat.mul_le_mul_right _ hle) hby
    · intro r hr
      simp only [List.mem_map, List.mem_range] at hr
      obtain ⟨i, hi, rfl⟩ := hr
      have hs := hR.seg (i * size) size
      rw [(hseg i (by omega)).1] at hs
      exact ⟨_, hs, (hes _ (List.getElem_mem _)).2⟩

omit H in
theorem rows_of {α : Type} {f : α → List Value} : ∀ {rows : List (List Value)}, (∀ r ∈ rows, ∃ a, r = f a) → ∃ l : List α, rows = l.map f
  | [], _ => ⟨[], rfl⟩
  | r :: rows, h => by
    obtain ⟨a, rfl⟩ := h r (by simp)
    obtain ⟨l, rfl⟩ := rows_of (rows := rows) fun x hx => h x (by simp [hx])
    exact ⟨a :: l, rfl⟩

end
end Go.Proofs.YtndndcdblfejnaaGreatRI
namespace Go.Proofs.YtndndcdblfejnaaGreatRI
set_option linter.unusedSimpArgs false
set_option linter.unusedVariables false
open Go
theorem i64_ok {n : Int} (h : (Lit.int .i64 n).wf = true) : okI n := by
  have : IntKind.i64.min ≤ n ∧ n ≤ 9223372036854775807 := by simpa [Lit.wf] using h
  have e : IntKind.i64.min = -9223372036854775808 := rfl
  rw [e] at this
  exact ⟨by omega, by omega⟩
section
variable {H : IHeap}
theorem row_Cmd {r : List Value} {d : List D} (h : Reps H r d) (ho : okDs [.i .i64, .i .i64, .i .i64, .i .i64, .i .i64, .i .i64, .i .i64, .i .i64] d) : ∃ x : Cmd, r = cmdL x ∧ okX x := by
  obtain ⟨x0, d', rfl, w0, ho⟩ := okDs_i ho
  obtain ⟨x1, d', rfl, w1, ho⟩ := okDs_i ho
  obtain ⟨x2, d', rfl, w2, ho⟩ := okDs_i ho
  obtain ⟨x3, d', rfl, w3, ho⟩ := okDs_i ho
  obtain ⟨x4, d', rfl, w4, ho⟩ := okDs_i ho
  obtain ⟨x5, d', rfl, w5, ho⟩ := okDs_i ho
  obtain ⟨x6, d', rfl, w6, ho⟩ := okDs_i ho
  obtain ⟨x7, d', rfl, w7, ho⟩ := okDs_i ho
  obtain rfl := okDs_nil ho
  obtain ⟨u0, us0, rfl, r0, h⟩ := h.cons_inv
  obtain ⟨u1, us1, rfl, r1, h⟩ := h.cons_inv
  obtain ⟨u2, us2, rfl, r2, h⟩ := h.cons_inv
  obtain ⟨u3, us3, rfl, r3, h⟩ := h.cons_inv
  obtain ⟨u4, us4, rfl, r4, h⟩ := h.cons_inv
  obtain ⟨u5, us5, rfl, r5, h⟩ := h.cons_inv
  obtain ⟨u6, us6, rfl, r6, h⟩ := h.cons_inv
  obtain ⟨u7, us7, rfl, r7, h⟩ := h.cons_inv
  obtain rfl := h.nil_inv
  obtain rfl := r0.i_inv
  obtain rfl := r1.i_inv
  obtain rfl := r2.i_inv
  obtain rfl := r3.i_inv
  obtain rfl := r4.i_inv
  obtain rfl := r5.i_inv
  obtain rfl := r6.i_inv
  obtain rfl := r7.i_inv
  exact ⟨⟨x0, x1, x2, x3, x4, x5, x6, x7⟩, rfl, i64_ok w0, i64_ok w1, i64_ok w2, i64_ok w3, i64_ok w4, i64_ok w5, i64_ok w6, i64_ok w7⟩
theorem arg_Cmd {v : Value} {d : List D} (h : ArgRep H true v d) (ho : okDs [.i .i64, .i .i64, .i .i64, .i .i64, .i .i64, .i .i64, .i .i64, .i .i64] d) : ∃ x : Cmd, v = cmdV x ∧ okX x := by
  obtain ⟨us, rfl, h⟩ := h
  obtain ⟨x, e, hx⟩ := row_Cmd h ho
  refine ⟨x, ?_, hx⟩
  cases us; simp [cmdL] at e; subst e; rfl
end
end Go.Proofs.YtndndcdblfejnaaGreatRI
