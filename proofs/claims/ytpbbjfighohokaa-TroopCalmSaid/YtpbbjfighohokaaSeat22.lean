/- What is known besides: more than one thing. / A law's arguments, decoded. / Deeds of nodes, and texts, as arguments. / PRINTED by gen.py: the seat's own numbers; the context; that it has the functions. -/
import Derived.Test.YtpbbjfighohokaaIdealZ
import Derived.Test.YtpbbjfighohokaaIdealY
import Derived.Test.YtpbbjfighohokaaVotes
import Derived.Test.YtpbbjfighohokaaRows
import Derived.KernelRfl
import Derived.Test.YtpbbjfighohokaaTroJ
namespace Go.Proofs.YtpbbjfighohokaaI
set_option linter.unusedSimpArgs false
set_option linter.unusedVariables false
open Go

def orX (X Y : CallT) : CallT := fun f a H K => X f a H K ∨ Y f a H K
theorem orX_mono {X Y : CallT} (h : LeC X X) (k : LeC Y Y) : LeC (orX X Y) (orX X Y) := fun f a H K K' hK hh => hh.elim (fun x => .inl (h f a H K K' hK x)) fun x => .inr (k f a H K K' hK x)
theorem orX_sim {P : Program} {X Y : CallT} (h : CSim P X) (k : CSim P Y) : CSim P (orX X Y) := fun f a H K hh => hh.elim (fun x => h f a H K x) fun x => k f a H K x
theorem overX_mono (g : FuncId) : LeC (overX g) (overX g) := by
  rintro f a H K K' hK ⟨h0, b1, o1, n1, c1, b2, o2, n2, c2, cs1, cs2, h1, h2, h3, h4, h5, h6, h7, h8, h9⟩
  exact ⟨h0, b1, o1, n1, c1, b2, o2, n2, c2, cs1, cs2, h1, h2, h3, h4, h5, h6, h7, h8, hK _ _ h9⟩
theorem Reveal_mono {H : IHeap} {size : Nat} {s : Value} {K K' : Value → IHeap → Prop} (hK : ∀ v H', K v H' → K' v H') (h : Reveal H size s K) : Reveal H size s K' := by
  rcases h with ⟨a, b⟩ | ⟨b, o, len, cs, h1, h2, h3⟩
  · exact .inl ⟨a, hK _ _ b⟩
  · exact .inr ⟨b, o, len, cs, h1, h2, fun c junk x y z => hK _ _ (h3 c junk x y z)⟩
theorem Hide_mono {H : IHeap} {size : Nat} {s : Value} {K K' : Value → IHeap → Prop} (hK : ∀ v H', K v H' → K' v H') (h : Hide H size s K) : Hide H size s K' := by
  rcases h with a | ⟨b, o, len, c, cs, h1, h2, h3, h4, h5, h6⟩
  · exact .inl (hK _ _ a)
  · exact .inr ⟨b, o, len, c, cs, h1, h2, h3, h4, h5, hK _ _ h6⟩
theorem wholeX_mono {CC : CallT} (hC : LeC CC CC) (g : FuncId) (size : Nat) : LeC (wholeX CC g size) (wholeX CC g size) := by
  rintro f a H K K' hK ⟨h0, s, r, h1, h2⟩
  exact ⟨h0, s, r, h1, Reveal_mono (fun t H1 h => hC _ _ _ _ _ (fun v H2 h => Hide_mono hK h) h) h2⟩

end Go.Proofs.YtpbbjfighohokaaI
namespace Go.Proofs.YtpbbjfighohokaaI
set_option linter.unusedSimpArgs false
set_option linter.unusedVariables false
open Go

section
variable {H : IHeap}

theorem okDs_i {k : IntKind} {sh : List Sh} {d : List D} (h : okDs (.i k :: sh) d) : ∃ n d', d = .i k n :: d' ∧ (Lit.int k n).wf = true ∧ okDs sh d' := by
  cases d with
  | nil => simp [okDs] at h
  | cons x d =>
    simp only [okDs] at h
    cases x <;> simp only [okD] at h <;> first | exact h.1.elim | skip
    obtain ⟨⟨rfl, h1⟩, h2⟩ := h
    exact ⟨_, _, rfl, h1, h2⟩
theorem okDs_s {sh : List Sh} {d : List D} (h : okDs (.s :: sh) d) : ∃ x d', d = .s x :: d' ∧ x.size ≤ reachBytes ∧ okDs sh d' := by
  cases d with
  | nil => simp [okDs] at h
  | cons y d =>
    simp only [okDs] at h
    cases y <;> simp only [okD] at h <;> first | exact h.1.elim | skip
    exact ⟨_, _, rfl, h.1, h.2⟩
theorem okDs_b {sh : List Sh} {d : List D} (h : okDs (.b :: sh) d) : ∃ x d', d = .b x :: d' ∧ okDs sh d' := by
  cases d with
  | nil => simp [okDs] at h
  | cons y d =>
    simp only [okDs] at h
    cases y <;> simp only [okD] at h <;> first | exact h.1.elim | skip
    exact ⟨_, _, rfl, h.2⟩
theorem okDs_nil {d : List D} (h : okDs [] d) : d = [] := by cases d <;> simp [okDs] at h; rfl
theorem okDs_sl {by' size : Nat} {e sh : List Sh} {d : List D} (h : okDs (.sl by' size e :: sh) d) : ∃ x d', d = x :: d' ∧ okD (.sl by' size e) x ∧ okDs sh d' := by
  cases d with
  | nil => simp [okDs] at h
  | cons y d => simp only [okDs] at h; exact ⟨y, d, rfl, h⟩

theorem Reps.cons_inv {vs : List Value} {x : D} {ds : List D} (h : Reps H vs (x :: ds)) : ∃ v vs', vs = v :: vs' ∧ Rep H v x ∧ Reps H vs' ds := by
  cases vs with
  | nil => have := h.1; simp at this
  | cons v vs => exact ⟨v, vs, rfl, h.2 0 v x (by simp) (by simp), by simpa using h.1, fun j u e h1 h2 => h.2 (j + 1) u e (by simpa using h1) (by simpa using h2)⟩
theorem Reps.nil_inv {vs : List Value} (h : Reps H vs []) : vs = [] := by have := h.1; simpa using this
theorem Rep.i_inv {v : Value} {k : IntKind} {n : Int} (h : Rep H v (.i k n)) : v = .int k n := by cases h; rfl
theorem Rep.s_inv {v : Value} {x : ByteArray} (h : Rep H v (.s x)) : v = .string x := by cases h; rfl
theorem Rep.b_inv {v : Value} {x : Bool} (h : Rep H v (.b x)) : v = .bool x := by cases h; rfl

theorem ArgsOk.cons_inv {a : Bool} {sh : List Sh} {r : List (Bool × List Sh)} {vs : List Value} {dss : List (List D)} (h : ArgsOk H ((a, sh) :: r) vs dss) :
    ∃ v vs' d dss', vs = v :: vs' ∧ dss = d :: dss' ∧ ArgRep H a v d ∧ okDs sh d ∧ ArgsOk H r vs' dss' := by
  match vs, dss, h with
  | [], [], h => exact h.elim
  | v :: vs, [], h => exact h.elim
  | [], _ :: _, h => exact h.elim
  | v :: vs, d :: dss, h => exact ⟨v, vs, d, dss, rfl, rfl, h⟩
theorem ArgsOk.nil_inv {vs : List Value} {dss : List (List D)} (h : ArgsOk H [] vs dss) : vs = [] := by
  match vs, dss, h with
  | [], [], _ => rfl
  | _ :: _, _, h => exact h.elim
  | [], _ :: _, h => exact h.elim

/-- An int. -/
theorem arg_i {k : IntKind} {v : Value} {d : List D} (h : ArgRep H false v d) (ho : okDs [.i k] d) : ∃ n, v = .int k n ∧ (Lit.int k n).wf = true := by
  obtain ⟨n, d', rfl, hw, h2⟩ := okDs_i ho
  obtain rfl := okDs_nil h2
  obtain ⟨u, us, e, h3, h4⟩ := Reps.cons_inv h
  injection e with e1 e2
  subst e1
  exact ⟨n, h3.i_inv, hw⟩
/-- A text. -/
theorem arg_s {v : Value} {d : List D} (h : ArgRep H false v d) (ho : okDs [.s] d) : ∃ x, v = .string x ∧ x.size ≤ reachBytes := by
  obtain ⟨n, d', rfl, hw, h2⟩ := okDs_s ho
  obtain rfl := okDs_nil h2
  obtain ⟨u, us, e, h3, h4⟩ := Reps.cons_inv h
  injection e with e1 e2
  subst e1
  exact ⟨n, h3.s_inv, hw⟩

theorem Reps.seg {vs : List Value} {ds : List D} (h : Reps H vs ds) (k m : Nat) : Reps H ((vs.drop k).take m) ((ds.drop k).take m) := by
  refine ⟨by simp [h.1], fun j v d h1 h2 => ?_⟩
  rw [List.getElem?_take] at h1 h2
  split at h1
  · rename_i hj
    rw [if_pos hj] at h2
    rw [List.getElem?_drop] at h1 h2
    exact h.2 _ v d h1 h2
  · cases h1

omit H in
theorem flat_seg : ∀ (es : List (List D)) (size i : Nat), (∀ d ∈ es, d.length = size) → ∀ hi : i < es.length, (es.flatten.drop (i * size)).take size = es[i] ∧ i * size + size ≤ es.flatten.length
  | [], _, i, _, hi => by simp at hi
  | d :: es, size, 0, h, _ => by
    have := h d (by simp)
    simp only [List.flatten_cons, Nat.zero_mul, List.drop_zero, List.getElem_cons_zero, List.length_append, Nat.zero_add]
    exact ⟨by rw [← this, List.take_left], by omega⟩
  | d :: es, size, i + 1, h, hi => by
    have h0 := h d (by simp)
    obtain ⟨h1, h2⟩ := flat_seg es size i (fun x hx => h x (by simp [hx])) (by simpa using hi)
    simp only [List.flatten_cons, List.getElem_cons_succ, List.length_append]
    have e : (i + 1) * size = d.length + i * size := by rw [h0, Nat.add_mul]; omega
    refine ⟨?_, by omega⟩
    rw [e, List.drop_append, List.drop_eq_nil_of_le (by omega), List.nil_append, Nat.add_sub_cancel_left]
    exact h1

/-- A slice's rows. -/
theorem arg_sl {by' size : Nat} {e : List Sh} {v : Value} {d : List D} (wf : ∀ b, H.next ≤ b → H.get b = none) (h : ArgRep H false v d) (ho : okDs [.sl by' size e] d) :
    ∃ rows : List (List Value), SlR H size v rows ∧ rows.length * by' ≤ reachBytes ∧ rows.length ≤ maxLen ∧ ∀ r ∈ rows, ∃ ds, Reps H r ds ∧ okDs e ds := by
  obtain ⟨x, d', rfl, hx, h2⟩ := okDs_sl ho
  obtain rfl := okDs_nil h2
  obtain ⟨u, us, eq, h3, h4⟩ := Reps.cons_inv h
  injection eq with e1 e2
  subst e1
  cases h3 with
  | b x => simp [okD] at hx
  | i k n => simp [okD] at hx
  | s x => simp [okD] at hx
  | nil => exact ⟨[], ⟨none, 0, rfl, fun h => absurd rfl h⟩, by simp, by simp, by simp⟩
  | z id o => exact ⟨[], ⟨_, 0, rfl, fun h => absurd rfl h⟩, by simp, by simp, by simp⟩
  | sl id len es vs hne hunk hget hvl hreps =>
    simp only [okD] at hx
    obtain ⟨hle, hby, hmax, hes⟩ := hx
    have hR : Reps H vs es.flatten := ⟨hvl, hreps⟩
    have hrow : ∀ i, i < len → (((List.range len).map fun i => (vs.drop (i * size)).take size)[i]? = some ((vs.drop (i * size)).take size)) := by
      intro i hi; simp [hi]
    have hseg := fun i (hi : i < es.length) => flat_seg es size i (fun d hd => (hes d hd).1) hi
    refine ⟨(List.range len).map fun i => (vs.drop (i * size)).take size, ⟨some ⟨id, 0, none⟩, es.length, by simp, fun _ => ⟨id, 0, vs, true, rfl, ?_, hget, ?_⟩⟩, ?_, by simp; omega, ?_⟩
    · rcases Nat.lt_or_ge id H.next with h | h
      · exact h
      · rw [wf id h] at hget; cases hget
    · intro i r hr
      have hi : i < len := by have := (List.getElem?_eq_some_iff.1 hr).1; simpa using this
      rw [hrow i hi] at hr
      injection hr with hr
      subst hr
      have h5 := (hseg i (by omega)).2
      refine ⟨by simp; omega, by simp, by omega⟩
    · simp only [List.length_map, List.length_range]
      exact Nat.le_trans (Nat.mul_le_mul_right _ hle) hby
    · intro r hr
      simp only [List.mem_map, List.mem_range] at hr
      obtain ⟨i, hi, rfl⟩ := hr
      have hs := hR.seg (i * size) size
      rw [(hseg i (by omega)).1] at hs
      exact ⟨_, hs, (hes _ (List.getElem_mem _)).2⟩

omit H in
theorem rows_of {α : Type} {f : α → List Value} : ∀ {rows : List (List Value)}, (∀ r ∈ rows, ∃ a, r = f a) → ∃ l : List α, rows = l.map f
  | [], _ => ⟨[], rfl⟩
  | r :: rows, h => by
    obtain ⟨a, rfl⟩ := h r (by simp)
    obtain ⟨l, rfl⟩ := rows_of (rows := rows) fun x hx => h x (by simp [hx])
    exact ⟨a :: l, rfl⟩

end
end Go.Proofs.YtpbbjfighohokaaI
namespace Go.Proofs.YtpbbjfighohokaaI
set_option linter.unusedSimpArgs false
set_option linter.unusedVariables false
open Go
structure DeedT where
  kind : Int
  a : Int
  b : Int
  text : ByteArray
def rowDT (d : DeedT) : List Value := [.int .i64 d.kind, .int .i64 d.a, .int .i64 d.b, .string d.text]
section
variable {H : IHeap}
theorem row_DeedT {r : List Value} {d : List D} (h : Reps H r d) (ho : okDs [.i .i64, .i .i64, .i .i64, .s] d) : ∃ v, r = rowDT v := by
  obtain ⟨x1, d', rfl, w1, ho⟩ := okDs_i ho
  obtain ⟨x2, d', rfl, w2, ho⟩ := okDs_i ho
  obtain ⟨x3, d', rfl, w3, ho⟩ := okDs_i ho
  obtain ⟨t, d', rfl, w6, ho⟩ := okDs_s ho
  obtain rfl := okDs_nil ho
  obtain ⟨u1, us1, rfl, r1, h⟩ := h.cons_inv
  obtain ⟨u2, us2, rfl, r2, h⟩ := h.cons_inv
  obtain ⟨u3, us3, rfl, r3, h⟩ := h.cons_inv
  obtain ⟨u4, us4, rfl, r4, h⟩ := h.cons_inv
  obtain rfl := h.nil_inv
  obtain rfl := r1.i_inv
  obtain rfl := r2.i_inv
  obtain rfl := r3.i_inv
  obtain rfl := r4.s_inv
  exact ⟨⟨x1, x2, x3, t⟩, rfl⟩
theorem arg_DeedsT {v : Value} {d : List D} (wf : ∀ b, H.next ≤ b → H.get b = none) (h : ArgRep H false v d) (ho : okDs [.sl 40 4 [.i .i64, .i .i64, .i .i64, .s]] d) : ∃ l : List DeedT, SlR H 4 v (l.map rowDT) := by
  obtain ⟨rows, s0, _, m0, r0⟩ := arg_sl wf h ho
  obtain ⟨l, rfl⟩ := rows_of (f := rowDT) fun r hr => by obtain ⟨ds, q1, q2⟩ := r0 r hr; exact row_DeedT q1 q2
  exact ⟨l, s0⟩
theorem arg_DeedT {v : Value} {d : List D} (h : ArgRep H true v d) (ho : okDs [.i .i64, .i .i64, .i .i64, .s] d) : ∃ x : DeedT, v = .agg #[.int .i64 x.kind, .int .i64 x.a, .int .i64 x.b, .string x.text] := by
  obtain ⟨us, rfl, h⟩ := h
  obtain ⟨x, e⟩ := row_DeedT h ho
  refine ⟨x, ?_⟩
  cases us; simp [rowDT] at e; subst e; rfl
theorem arg_Texts {v : Value} {d : List D} (wf : ∀ b, H.next ≤ b → H.get b = none) (h : ArgRep H false v d) (ho : okDs [.sl 16 1 [.s]] d) : ∃ l : List ByteArray, SlR H 1 v (l.map fun x => [.string x]) := by
  obtain ⟨rows, s0, _, m0, r0⟩ := arg_sl wf h ho
  obtain ⟨l, rfl⟩ := rows_of (f := fun x : ByteArray => [Value.string x]) fun r hr => by
    obtain ⟨ds, q1, q2⟩ := r0 r hr
    obtain ⟨t, d', rfl, w6, q2⟩ := okDs_s q2
    obtain rfl := okDs_nil q2
    obtain ⟨u4, us4, rfl, r4, q1⟩ := q1.cons_inv
    obtain rfl := q1.nil_inv
    obtain rfl := r4.s_inv
    exact ⟨t, rfl⟩
  exact ⟨l, s0⟩
end
end Go.Proofs.YtpbbjfighohokaaI
namespace Go.Proofs.YtpbbjfighohokaaI
set_option linter.unusedSimpArgs false
set_option linter.unusedVariables false
open Go

def seatF : Nat → FuncId := fun i => [0, 86, 79, 78, 65, 64, 74, 61, 84, 73, 0, 0, 0, 88, 0, 0, 0, 0, 7, 0, 0, 0, 0, 0, 0, 0, 0, 0, 0, 0, 0, 0, 0, 0, 0, 0, 0, 0, 0, 0, 0, 0, 0, 0, 0, 0, 0, 0, 0, 0, 0, 0, 0, 0, 0, 0, 0, 0, 0, 0, 0, 0, 0, 0, 0, 0, 0, 0, 0, 0, 13, 0, 0, 0, 0, 0, 0, 0, 0, 0, 0, 39, 0, 47, 49, 59, 71, 56, 50, 69, 70, 72, 0, 0, 0, 0, 0, 0, 0, 0, 0, 0, 0, 0, 0, 0, 0, 0, 0, 0, 0, 0, 0, 0, 0, 0, 0, 0, 0, 0, 0, 0, 0, 0, 0, 0, 0, 0, 0, 0, 0, 0, 0, 0, 0, 0, 0, 0, 0, 0, 0, 0, 0, 0, 0, 0, 0, 0, 0, 0, 0, 0, 0, 0, 0, 0, 0, 0, 0, 0, 0, 0, 0, 0, 0, 0, 0, 0, 0, 0, 0, 0, 0, 0, 0, 0, 0, 37, 67, 81, 66, 53, 45, 0, 52, 75, 58, 68, 85, 80, 82, 83, 0, 0, 0, 0, 0, 0, 0, 0, 0, 0, 0, 0, 0, 0, 0, 0, 0, 0, 0, 0, 0, 0, 0, 0, 0, 0, 0, 0, 0, 0, 0, 0, 0, 0, 0, 0, 0, 0, 0, 0, 0, 0, 0, 0, 0, 0, 0, 0, 0, 0, 0, 0, 0, 0, 0, 0, 0, 0, 0, 0, 0, 0, 0, 0, 0, 0, 0, 0, 0, 0, 0, 0, 0, 0, 0, 0, 0, 0, 0, 0, 0, 0, 0, 38, 51, 77, 62, 60, 76, 63, 55, 44, 0, 0, 0, 0, 24, 27, 35, 29, 30, 32, 0, 31, 0, 36, 40, 42, 43, 46, 48, 54, 41, 0, 0, 0, 0, 0, 0, 9, 25, 10, 12, 18, 19, 20, 21, 22, 14, 15, 23, 28, 26, 34, 33, 57, 3, 4, 5, 6, 8, 11, 16, 17].getD i 0
def seatTy : Nat → TypeId := fun i => [0, 9, 3, 118, 121, 120, 0, 79, 80, 84, 89, 91, 93].getD i 0
noncomputable def seatC0 : Ctx := ⟨Try.prog, compFunc2 Try.prog, overX 82, seatF, seatTy, overX_mono _⟩
noncomputable def seatC : Ctx := ⟨Try.prog, compFunc2 Try.prog, orX (overX 82) (wholeX seatC0.C 68 4), seatF, seatTy, orX_mono (overX_mono _) (wholeX_mono seatC0.mono _ _)⟩
theorem has_cmp_isNaN_int : seatC.IP (seatC.F 1) = some (c_cmp_isNaN_int seatC.F seatC.Ty) := by kernel_rfl
theorem has_cmp_Compare_int : seatC.IP (seatC.F 2) = some (c_cmp_Compare_int seatC.F seatC.Ty) := by kernel_rfl
theorem has_cmp_Or_int : seatC.IP (seatC.F 3) = some (c_cmp_Or_int seatC.F seatC.Ty) := by kernel_rfl
theorem has_ballot_Cmp : seatC.IP (seatC.F 4) = some (c_ballot_Cmp seatC.F seatC.Ty) := by kernel_rfl
theorem has_ballot_Valid : seatC.IP (seatC.F 5) = some (c_ballot_Valid seatC.F seatC.Ty) := by kernel_rfl
theorem seatHasBalA : HasBalA seatC := ⟨has_cmp_isNaN_int, has_cmp_Compare_int, has_cmp_Or_int, has_ballot_Cmp, has_ballot_Valid⟩
theorem has_ballot_Quorum : seatC.IP (seatC.F 7) = some (c_ballot_Quorum seatC.F seatC.Ty) := by kernel_rfl
theorem has_hurdleref16_Quorum : seatC.IP (seatC.F 18) = some (c_hurdleref16_Quorum seatC.F seatC.Ty) := by kernel_rfl
theorem seatHasBalB : HasBalB seatC := ⟨has_ballot_Quorum, has_hurdleref16_Quorum⟩
theorem has_ballot_Next : seatC.IP (seatC.F 6) = some (c_ballot_Next seatC.F seatC.Ty) := by kernel_rfl
theorem has_ballot_Max : seatC.IP (seatC.F 9) = some (c_ballot_Max seatC.F seatC.Ty) := by kernel_rfl
theorem has_ballot_greatest : seatC.IP (seatC.F 8) = some (c_ballot_greatest seatC.F seatC.Ty) := by kernel_rfl
theorem has_slices_MaxFunc_api_Ballot_api_Ballot : seatC.IP (seatC.F 13) = some (c_slices_MaxFunc_api_Ballot_api_Ballot seatC.F seatC.Ty) := by kernel_rfl
theorem seatHasBalD : HasBalD seatC := ⟨has_ballot_Next, has_ballot_Max, has_ballot_greatest, has_slices_MaxFunc_api_Ballot_api_Ballot⟩
theorem has_proposer_New : seatC.IP (seatC.F 275) = some (c_proposer_New seatC.F seatC.Ty) := by kernel_rfl
theorem has_proposer_Proposer_Lead : seatC.IP (seatC.F 276) = some (c_proposer_Proposer_Lead seatC.F seatC.Ty) := by kernel_rfl
theorem has_proposer_Proposer_count : seatC.IP (seatC.F 277) = some (c_proposer_Proposer_count seatC.F seatC.Ty) := by kernel_rfl
theorem has_proposer_Proposer_Promise : seatC.IP (seatC.F 278) = some (c_proposer_Proposer_Promise seatC.F seatC.Ty) := by kernel_rfl
theorem has_proposer_Proposer_Leads : seatC.IP (seatC.F 279) = some (c_proposer_Proposer_Leads seatC.F seatC.Ty) := by kernel_rfl
theorem has_proposer_Proposer_vote : seatC.IP (seatC.F 280) = some (c_proposer_Proposer_vote seatC.F seatC.Ty) := by kernel_rfl
theorem has_proposer_Proposer_Fill : seatC.IP (seatC.F 281) = some (c_proposer_Proposer_Fill seatC.F seatC.Ty) := by kernel_rfl
theorem has_proposer_Proposer_Propose : seatC.IP (seatC.F 282) = some (c_proposer_Proposer_Propose seatC.F seatC.Ty) := by kernel_rfl
theorem has_proposer_Proposer_Step : seatC.IP (seatC.F 283) = some (c_proposer_Proposer_Step seatC.F seatC.Ty) := by kernel_rfl
theorem seatHasProp : HasProp seatC := ⟨has_proposer_New, has_proposer_Proposer_Lead, has_proposer_Proposer_count, has_proposer_Proposer_Promise, has_proposer_Proposer_Leads, has_proposer_Proposer_vote, has_proposer_Proposer_Fill, has_proposer_Proposer_Propose, has_proposer_Proposer_Step⟩
theorem has_acceptor_New : seatC.IP (seatC.F 177) = some (c_acceptor_New seatC.F seatC.Ty) := by kernel_rfl
theorem has_acceptor_Acceptor_find : seatC.IP (seatC.F 178) = some (c_acceptor_Acceptor_find seatC.F seatC.Ty) := by kernel_rfl
theorem has_acceptor_Acceptor_find_F1 : seatC.IP (seatC.F 179) = some (c_acceptor_Acceptor_find_F1 seatC.F seatC.Ty) := by kernel_rfl
theorem has_acceptor_Acceptor_may : seatC.IP (seatC.F 180) = some (c_acceptor_Acceptor_may seatC.F seatC.Ty) := by kernel_rfl
theorem has_acceptor_Acceptor_Promise : seatC.IP (seatC.F 181) = some (c_acceptor_Acceptor_Promise seatC.F seatC.Ty) := by kernel_rfl
theorem has_acceptor_Acceptor_Accept : seatC.IP (seatC.F 182) = some (c_acceptor_Acceptor_Accept seatC.F seatC.Ty) := by kernel_rfl
theorem has_acceptor_Acceptor_Promised : seatC.IP (seatC.F 184) = some (c_acceptor_Acceptor_Promised seatC.F seatC.Ty) := by kernel_rfl
theorem has_acceptor_Acceptor_Votes : seatC.IP (seatC.F 185) = some (c_acceptor_Acceptor_Votes seatC.F seatC.Ty) := by kernel_rfl
theorem has_acceptor_Acceptor_Base : seatC.IP (seatC.F 186) = some (c_acceptor_Acceptor_Base seatC.F seatC.Ty) := by kernel_rfl
theorem has_slices_Insert_api_Vote_api_Vote : seatC.IP (seatC.F 187) = some (c_slices_Insert_api_Vote_api_Vote seatC.F seatC.Ty) := by kernel_rfl
theorem has_slices_Clone_api_Vote_api_Vote : seatC.IP (seatC.F 188) = some (c_slices_Clone_api_Vote_api_Vote seatC.F seatC.Ty) := by kernel_rfl
theorem has_slices_BinarySearchFunc_api_Vote_api_Vote_int : seatC.IP (seatC.F 189) = some (c_slices_BinarySearchFunc_api_Vote_api_Vote_int seatC.F seatC.Ty) := by kernel_rfl
theorem seatHasAcc : HasAcc seatC := ⟨has_acceptor_New, has_acceptor_Acceptor_find, has_acceptor_Acceptor_find_F1, has_acceptor_Acceptor_may, has_acceptor_Acceptor_Promise, has_acceptor_Acceptor_Accept, has_acceptor_Acceptor_Promised, has_acceptor_Acceptor_Votes, has_acceptor_Acceptor_Base, has_slices_Insert_api_Vote_api_Vote, has_slices_Clone_api_Vote_api_Vote, has_slices_BinarySearchFunc_api_Vote_api_Vote_int⟩
theorem has_learner_New : seatC.IP (seatC.F 81) = some (c_learner_New seatC.F seatC.Ty) := by kernel_rfl
theorem has_learner_Learner_Hear : seatC.IP (seatC.F 83) = some (c_learner_Learner_Hear seatC.F seatC.Ty) := by kernel_rfl
theorem has_learner_Learner_Tell : seatC.IP (seatC.F 84) = some (c_learner_Learner_Tell seatC.F seatC.Ty) := by kernel_rfl
theorem has_learner_Learner_Trim : seatC.IP (seatC.F 85) = some (c_learner_Learner_Trim seatC.F seatC.Ty) := by kernel_rfl
theorem has_learner_Learner_Base : seatC.IP (seatC.F 86) = some (c_learner_Learner_Base seatC.F seatC.Ty) := by kernel_rfl
theorem has_learner_Learner_Log : seatC.IP (seatC.F 87) = some (c_learner_Learner_Log seatC.F seatC.Ty) := by kernel_rfl
theorem has_learner_Learner_Next : seatC.IP (seatC.F 88) = some (c_learner_Learner_Next seatC.F seatC.Ty) := by kernel_rfl
theorem has_learner_Learner_may : seatC.IP (seatC.F 89) = some (c_learner_Learner_may seatC.F seatC.Ty) := by kernel_rfl
theorem has_learner_Learner_tally : seatC.IP (seatC.F 90) = some (c_learner_Learner_tally seatC.F seatC.Ty) := by kernel_rfl
theorem has_learner_Learner_forget : seatC.IP (seatC.F 91) = some (c_learner_Learner_forget seatC.F seatC.Ty) := by kernel_rfl
theorem seatHasLearner : HasLearner seatC := ⟨has_learner_New, has_learner_Learner_Hear, has_learner_Learner_Tell, has_learner_Learner_Trim, has_learner_Learner_Base, has_learner_Learner_Log, has_learner_Learner_Next, has_learner_Learner_may, has_learner_Learner_tally, has_learner_Learner_forget⟩
theorem has_replica_New : seatC.IP (seatC.F 288) = some (c_replica_New seatC.F seatC.Ty) := by kernel_rfl
theorem has_replica_Replica_Take : seatC.IP (seatC.F 289) = some (c_replica_Replica_Take seatC.F seatC.Ty) := by kernel_rfl
theorem has_replica_Replica_Crash : seatC.IP (seatC.F 290) = some (c_replica_Replica_Crash seatC.F seatC.Ty) := by kernel_rfl
theorem has_replica_Replica_Lead : seatC.IP (seatC.F 291) = some (c_replica_Replica_Lead seatC.F seatC.Ty) := by kernel_rfl
theorem has_replica_Replica_Propose : seatC.IP (seatC.F 292) = some (c_replica_Replica_Propose seatC.F seatC.Ty) := by kernel_rfl
theorem has_replica_Replica_Ask : seatC.IP (seatC.F 293) = some (c_replica_Replica_Ask seatC.F seatC.Ty) := by kernel_rfl
theorem has_replica_Replica_Log : seatC.IP (seatC.F 295) = some (c_replica_Replica_Log seatC.F seatC.Ty) := by kernel_rfl
theorem has_replica_Replica_Leads : seatC.IP (seatC.F 297) = some (c_replica_Replica_Leads seatC.F seatC.Ty) := by kernel_rfl
theorem has_replica_Replica_node : seatC.IP (seatC.F 298) = some (c_replica_Replica_node seatC.F seatC.Ty) := by kernel_rfl
theorem has_replica_Replica_prepare : seatC.IP (seatC.F 299) = some (c_replica_Replica_prepare seatC.F seatC.Ty) := by kernel_rfl
theorem has_replica_Replica_promise : seatC.IP (seatC.F 300) = some (c_replica_Replica_promise seatC.F seatC.Ty) := by kernel_rfl
theorem has_replica_Replica_vote : seatC.IP (seatC.F 301) = some (c_replica_Replica_vote seatC.F seatC.Ty) := by kernel_rfl
theorem has_replica_Replica_tell : seatC.IP (seatC.F 302) = some (c_replica_Replica_tell seatC.F seatC.Ty) := by kernel_rfl
theorem has_replica_Replica_all : seatC.IP (seatC.F 303) = some (c_replica_Replica_all seatC.F seatC.Ty) := by kernel_rfl
theorem has_replica_read : seatC.IP (seatC.F 304) = some (c_replica_read seatC.F seatC.Ty) := by kernel_rfl
theorem seatHasRepl : HasRepl seatC := ⟨has_replica_New, has_replica_Replica_Take, has_replica_Replica_Crash, has_replica_Replica_Lead, has_replica_Replica_Propose, has_replica_Replica_Ask, has_replica_Replica_Log, has_replica_Replica_Leads, has_replica_Replica_node, has_replica_Replica_prepare, has_replica_Replica_promise, has_replica_Replica_vote, has_replica_Replica_tell, has_replica_Replica_all, has_replica_read⟩
theorem has_troop_New : seatC.IP (seatC.F 311) = some (c_troop_New seatC.F seatC.Ty) := by kernel_rfl
theorem has_troop_New_F1 : seatC.IP (seatC.F 312) = some (c_troop_New_F1 seatC.F seatC.Ty) := by kernel_rfl
theorem has_troop_Troop_Lead : seatC.IP (seatC.F 313) = some (c_troop_Troop_Lead seatC.F seatC.Ty) := by kernel_rfl
theorem has_troop_Troop_Propose : seatC.IP (seatC.F 314) = some (c_troop_Troop_Propose seatC.F seatC.Ty) := by kernel_rfl
theorem has_troop_Troop_Ask : seatC.IP (seatC.F 315) = some (c_troop_Troop_Ask seatC.F seatC.Ty) := by kernel_rfl
theorem has_troop_Troop_Deliver : seatC.IP (seatC.F 316) = some (c_troop_Troop_Deliver seatC.F seatC.Ty) := by kernel_rfl
theorem has_troop_Troop_Drop : seatC.IP (seatC.F 317) = some (c_troop_Troop_Drop seatC.F seatC.Ty) := by kernel_rfl
theorem has_troop_Troop_Double : seatC.IP (seatC.F 318) = some (c_troop_Troop_Double seatC.F seatC.Ty) := by kernel_rfl
theorem has_troop_Troop_Crash : seatC.IP (seatC.F 319) = some (c_troop_Troop_Crash seatC.F seatC.Ty) := by kernel_rfl
theorem has_troop_Troop_Log : seatC.IP (seatC.F 320) = some (c_troop_Troop_Log seatC.F seatC.Ty) := by kernel_rfl
theorem has_troop_Troop_Waiting : seatC.IP (seatC.F 321) = some (c_troop_Troop_Waiting seatC.F seatC.Ty) := by kernel_rfl
theorem has_troop_Troop_Leads : seatC.IP (seatC.F 322) = some (c_troop_Troop_Leads seatC.F seatC.Ty) := by kernel_rfl
theorem has_troop_Troop_node : seatC.IP (seatC.F 323) = some (c_troop_Troop_node seatC.F seatC.Ty) := by kernel_rfl
theorem has_troop_way_put : seatC.IP (seatC.F 324) = some (c_troop_way_put seatC.F seatC.Ty) := by kernel_rfl
theorem has_troop_way_at : seatC.IP (seatC.F 325) = some (c_troop_way_at seatC.F seatC.Ty) := by kernel_rfl
theorem has_troop_way_out : seatC.IP (seatC.F 326) = some (c_troop_way_out seatC.F seatC.Ty) := by kernel_rfl
theorem has_slices_Delete_api_Note_api_Note : seatC.IP (seatC.F 327) = some (c_slices_Delete_api_Note_api_Note seatC.F seatC.Ty) := by kernel_rfl
theorem seatHasTroop : HasTroop seatC := ⟨has_troop_New, has_troop_New_F1, has_troop_Troop_Lead, has_troop_Troop_Propose, has_troop_Troop_Ask, has_troop_Troop_Deliver, has_troop_Troop_Drop, has_troop_Troop_Double, has_troop_Troop_Crash, has_troop_Troop_Log, has_troop_Troop_Waiting, has_troop_Troop_Leads, has_troop_Troop_node, has_troop_way_put, has_troop_way_at, has_troop_way_out, has_slices_Delete_api_Note_api_Note⟩
theorem has_hurdleref01_Texts : seatC.IP (seatC.F 70) = some (c_hurdleref01_Texts seatC.F seatC.Ty) := by kernel_rfl
theorem seatHasRef22 : HasRef22 seatC := ⟨has_hurdleref01_Texts⟩
theorem has_hurdlelaw22_TroopCalm : seatC.IP (seatC.F 328) = some (c_hurdlelaw22_TroopCalm seatC.F seatC.Ty) := by kernel_rfl
theorem has_hurdlelaw22_TroopAgrees : seatC.IP (seatC.F 329) = some (c_hurdlelaw22_TroopAgrees seatC.F seatC.Ty) := by kernel_rfl
theorem has_hurdlelaw22_TroopValid : seatC.IP (seatC.F 330) = some (c_hurdlelaw22_TroopValid seatC.F seatC.Ty) := by kernel_rfl
theorem has_hurdlelaw22_TroopNone : seatC.IP (seatC.F 331) = some (c_hurdlelaw22_TroopNone seatC.F seatC.Ty) := by kernel_rfl
theorem has_hurdlelaw22_awake : seatC.IP (seatC.F 332) = some (c_hurdlelaw22_awake seatC.F seatC.Ty) := by kernel_rfl
theorem has_hurdlelaw22_deliver : seatC.IP (seatC.F 333) = some (c_hurdlelaw22_deliver seatC.F seatC.Ty) := by kernel_rfl
theorem has_hurdlelaw22_few : seatC.IP (seatC.F 334) = some (c_hurdlelaw22_few seatC.F seatC.Ty) := by kernel_rfl
theorem has_hurdlelaw22_do : seatC.IP (seatC.F 335) = some (c_hurdlelaw22_do seatC.F seatC.Ty) := by kernel_rfl
theorem seatHasLaw22 : HasLaw22 seatC := ⟨has_hurdlelaw22_TroopCalm, has_hurdlelaw22_TroopAgrees, has_hurdlelaw22_TroopValid, has_hurdlelaw22_TroopNone, has_hurdlelaw22_awake, has_hurdlelaw22_deliver, has_hurdlelaw22_few, has_hurdlelaw22_do⟩
theorem seatMixed : Try.prog.follows .mixedOrders = true := by kernel_rfl
theorem seatHasAcc0 : HasAcc seatC0 := ⟨has_acceptor_New, has_acceptor_Acceptor_find, has_acceptor_Acceptor_find_F1, has_acceptor_Acceptor_may, has_acceptor_Acceptor_Promise, has_acceptor_Acceptor_Accept, has_acceptor_Acceptor_Promised, has_acceptor_Acceptor_Votes, has_acceptor_Acceptor_Base, has_slices_Insert_api_Vote_api_Vote, has_slices_Clone_api_Vote_api_Vote, has_slices_BinarySearchFunc_api_Vote_api_Vote_int⟩
theorem seatOver : CSim Try.prog (overX 82) := overX_sim (fn := Try.f82) (tS := 54) (tR := 4) (e := 82) (size := 4) (by kernel_rfl) (by kernel_rfl) (by kernel_rfl) (by kernel_rfl) (by kernel_rfl) (by kernel_rfl) (by kernel_rfl)
theorem seatSim0 : CSim Try.prog seatC0.C := sim_call2 seatMixed (fun _ _ h => h) seatOver (overX_mono _)
set_option maxRecDepth 100000 in
theorem seatSim : CSim Try.prog seatC.C := sim_call2 seatMixed (fun _ _ h => h) (orX_sim seatOver (wholeX_sim (code := c_slices_Insert_api_Vote_api_Vote seatF seatTy) seatSim0 has_slices_Insert_api_Vote_api_Vote (by omega))) (orX_mono (overX_mono _) (wholeX_mono seatC0.mono _ _))
set_option maxRecDepth 100000 in
theorem seatInsOk : InsOk seatC := fun H K q vb i u rows new h1 h2 h3 h4 h5 h6 h7 h8 h9 h10 hK =>
 Ins_ok seatC seatC0 seatHasAcc0
 (fun H K b1 o1 n1 c1 b2 o2 n2 c2 cs1 cs2 q1 q2 q3 q4 q5 q6 q7 q8 => ICall.ext ⟨rfl, b1, o1, n1, c1, b2, o2, n2, c2, cs1, cs2, rfl, q1, q2, q3, q4, q5, q6, q7, q8⟩)
 (fun s r H K h => ICall.ext (.inr ⟨rfl, s, r, rfl, h⟩)) h1 h2 h3 h4 h5 h6 h7 h8 h9 h10 hK
theorem seatProT : ProT seatC := ⟨by kernel_rfl⟩
/-- What an operation of two operands reads. -/
def rho (x y : Value) : Operand → Value
 | .tmp _ => x
 | _ => y
theorem exec_add {ρ : Operand → Value} {t ty : TypeId} {n : Nat} {k : Value} : execOp ρ ⟨none, .binOp .add t (.tmp n) (.const k) t, ty, "", #[], none⟩ = execOp (rho (ρ (.tmp n)) (ρ (.const k))) ⟨none, .binOp .add t (.tmp n) (.const k) t, ty, "", #[], none⟩ := rfl
theorem exec_real {ρ : Operand → Value} {t ty : TypeId} : execOp ρ ⟨none, .call ⟨.builtin .real, #[.tmp 65], #[t]⟩, ty, "", #[], none⟩ = (execOp (rho (ρ (.tmp 65)) (ρ (.tmp 65))) ⟨none, .call ⟨.builtin .real, #[.tmp 65], #[t]⟩, ty, "", #[], none⟩) := by kernel_rfl
theorem exec_conv {ρ : Operand → Value} {t u ty : TypeId} {n : Nat} : execOp ρ ⟨none, .convert t u (.tmp n), ty, "", #[], none⟩ = execOp (rho (ρ (.tmp n)) (ρ (.tmp n))) ⟨none, .convert t u (.tmp n), ty, "", #[], none⟩ := rfl
theorem seatKI : KeyOf seatC.P (seatC.Ty 2) kI := keyOf_int (k := .i64) (by kernel_rfl)
theorem seatKP : KeyOf seatC.P (seatC.Ty 3) kP := keyOf_pair (by kernel_rfl) (by kernel_rfl) (fun e a b => by kernel_rfl)
theorem seatLearnT : LearnT seatC := ⟨seatKI, seatKP⟩
set_option maxRecDepth 100000 in
theorem seatOne : ∀ a b : Nat, a ≤ 6 → b ≤ 6 → pureRun seatC.P (execOp (rho (cx a b) (.complex .f64 0 4607182418800017408)) ⟨none, .binOp .add (seatC.Ty 4) (.tmp 29) (.const (.complex .f64 0 4607182418800017408)) (seatC.Ty 4), seatC.Ty 4, "", #[], none⟩) = some (.value (cx a (b + 1))) := by
 intro a b ha hb
 rcases (by omega : a = 0 ∨ a = 1 ∨ a = 2 ∨ a = 3 ∨ a = 4 ∨ a = 5 ∨ a = 6) with rfl | rfl | rfl | rfl | rfl | rfl | rfl <;> rcases (by omega : b = 0 ∨ b = 1 ∨ b = 2 ∨ b = 3 ∨ b = 4 ∨ b = 5 ∨ b = 6) with rfl | rfl | rfl | rfl | rfl | rfl | rfl <;> kernel_rfl
set_option maxRecDepth 100000 in
theorem seatTwo : ∀ a b : Nat, a ≤ 6 → b ≤ 7 → pureRun seatC.P (execOp (rho (cx a b) (.complex .f64 4607182418800017408 0)) ⟨none, .binOp .add (seatC.Ty 4) (.tmp 34) (.const (.complex .f64 4607182418800017408 0)) (seatC.Ty 4), seatC.Ty 4, "", #[], none⟩) = some (.value (cx (a + 1) b)) := by
 intro a b ha hb
 rcases (by omega : a = 0 ∨ a = 1 ∨ a = 2 ∨ a = 3 ∨ a = 4 ∨ a = 5 ∨ a = 6) with rfl | rfl | rfl | rfl | rfl | rfl | rfl <;> rcases (by omega : b = 0 ∨ b = 1 ∨ b = 2 ∨ b = 3 ∨ b = 4 ∨ b = 5 ∨ b = 6 ∨ b = 7) with rfl | rfl | rfl | rfl | rfl | rfl | rfl | rfl <;> kernel_rfl
set_option maxRecDepth 100000 in
theorem seatRe : ∀ a b : Nat, a ≤ 7 → b ≤ 7 → pureRun seatC.P (execOp (rho (cx a b) (cx a b)) ⟨none, .call ⟨.builtin .real, #[.tmp 65], #[seatC.Ty 4]⟩, seatC.Ty 5, "", #[], none⟩) = some (.value (.float .f64 (fl a))) := by
 intro a b ha hb
 rcases (by omega : a = 0 ∨ a = 1 ∨ a = 2 ∨ a = 3 ∨ a = 4 ∨ a = 5 ∨ a = 6 ∨ a = 7) with rfl | rfl | rfl | rfl | rfl | rfl | rfl | rfl <;> rcases (by omega : b = 0 ∨ b = 1 ∨ b = 2 ∨ b = 3 ∨ b = 4 ∨ b = 5 ∨ b = 6 ∨ b = 7) with rfl | rfl | rfl | rfl | rfl | rfl | rfl | rfl <;> kernel_rfl
theorem seatInt : ∀ a : Nat, a ≤ 7 → pureRun seatC.P (execOp (rho (.float .f64 (fl a)) (.float .f64 (fl a))) ⟨none, .convert (seatC.Ty 5) (seatC.Ty 2) (.tmp 66), seatC.Ty 2, "", #[], none⟩) = some (.value (.int .i64 a)) := by
 intro a ha
 rcases (by omega : a = 0 ∨ a = 1 ∨ a = 2 ∨ a = 3 ∨ a = 4 ∨ a = 5 ∨ a = 6 ∨ a = 7) with rfl | rfl | rfl | rfl | rfl | rfl | rfl | rfl <;> kernel_rfl
theorem seatCountT : CountT seatC := by
 refine ⟨fun ρ a b ha hb h1 h2 => ?_, fun ρ a b ha hb h1 h2 => ?_, fun ρ a b ha hb h1 => ?_, fun ρ a ha h1 => ?_⟩
 · rw [exec_add, h1, h2]; exact seatOne a b ha hb
 · rw [exec_add, h1, h2]; exact seatTwo a b ha hb
 · rw [exec_real, h1]; exact seatRe a b ha hb
 · rw [exec_conv, h1]; exact seatInt a ha
theorem seatTys : List.Nodup [seatC.Ty 7, seatC.Ty 8, seatC.Ty 9, seatC.Ty 10, seatC.Ty 11, seatC.Ty 12] := of_decide_eq_true (by kernel_rfl)
theorem seatN : NodeC seatC := ⟨seatHasBalA, seatHasBalB, seatHasBalD, seatHasProp, seatProT, seatHasAcc, seatInsOk, seatHasLearner, seatLearnT, seatCountT, seatHasRepl, seatTys⟩
theorem seatAw (H : IHeap) (K : Value → IHeap → Prop) (h : ∀ H', K (.bool true) H') : seatC.C (seatC.F n_hurdlelaw22_awake) [] H K := awake22 seatC seatHasTroop seatN seatHasRef22 seatHasLaw22 h

end Go.Proofs.YtpbbjfighohokaaI
