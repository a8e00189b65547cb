/- A region that draws its order: one order shows them all. -/
import Derived.Test.YtpklgklmjhblpaaIdealM
namespace Go.Proofs.YtpklgklmjhblpaaI
set_option linter.unusedSimpArgs false
set_option linter.unusedVariables false
open Go

/-! ### Who waits for whom -/

def foldA (acc : List Nat) (o : Oper) : Nat := o.after.toList.foldl (fun s e => if Region.binds .any e then s ||| 2 ^ e.on ||| acc.getD e.on 0 else s) 0

theorem ancL_spec : ∀ (os : List Oper) (acc : List Nat), ∃ r, ancL os acc = acc ++ r ∧ r.length = os.length ∧ ∀ k o, os[k]? = some o → r[k]? = some (foldA (acc ++ r.take k) o)
  | [], acc => ⟨[], by simp [ancL], rfl, by simp⟩
  | o :: os, acc => by
    obtain ⟨r, h1, h2, h3⟩ := ancL_spec os (acc ++ [foldA acc o])
    refine ⟨foldA acc o :: r, ?_, by simp [h2], fun k o' hk => ?_⟩
    · show ancL os (acc ++ [foldA acc o]) = _
      rw [h1]; simp
    · cases k with
      | zero => simp at hk; subst hk; simp
      | succ k =>
        have := h3 k o' (by simpa using hk)
        simpa using this

theorem foldA_bit {acc : List Nat} {j : Nat} : ∀ (l : List Edge) (s : Nat), (l.foldl (fun s e => if Region.binds .any e then s ||| 2 ^ e.on ||| acc.getD e.on 0 else s) s).testBit j = true →
    s.testBit j = true ∨ ∃ e ∈ l, Region.binds .any e = true ∧ (e.on = j ∨ (acc.getD e.on 0).testBit j = true)
  | [], s, h => .inl h
  | e :: l, s, h => by
    simp only [List.foldl_cons] at h
    rcases foldA_bit l _ h with h1 | ⟨e', he', h1⟩
    · by_cases hb : Region.binds .any e = true
      · rw [if_pos hb, Nat.testBit_or, Nat.testBit_or, Nat.testBit_two_pow] at h1
        simp only [Bool.or_eq_true, decide_eq_true_eq] at h1
        rcases h1 with (h1 | h1) | h1
        · exact .inl h1
        · exact .inr ⟨e, by simp, hb, .inl h1⟩
        · exact .inr ⟨e, by simp, hb, .inr h1⟩
      · rw [if_neg hb] at h1; exact .inl h1
    · exact .inr ⟨e', by simp [he'], h1⟩

theorem edgesBack_spec : ∀ (os : List Oper) (i : Nat), edgesBack os i = true → ∀ k o, os[k]? = some o → ∀ e ∈ o.after.toList, Region.binds .any e = true → e.on < i + k
  | [], _, _, k, o, hk, _, _, _ => by simp at hk
  | o' :: os, i, h, k, o, hk, e, he, hb => by
    simp only [edgesBack, Bool.and_eq_true] at h
    cases k with
    | zero =>
      simp at hk; subst hk
      have := List.all_eq_true.1 h.1 e he
      simpa [hb] using this
    | succ k =>
      have := edgesBack_spec os (i + 1) h.2 k o (by simpa using hk) e he hb
      omega

section
variable {ops : Array Oper}

theorem anc_spec (hb : edgesBack ops.toList 0 = true) {i : Nat} {o : Oper} {j : Nat} (ho : ops[i]? = some o) (h : waits (ancL ops.toList []) i j = true) :
    ∃ e ∈ o.after.toList, Region.binds .any e = true ∧ e.on < i ∧ (e.on = j ∨ waits (ancL ops.toList []) e.on j = true) := by
  obtain ⟨r, h1, h2, h3⟩ := ancL_spec ops.toList []
  have ho' : ops.toList[i]? = some o := by simpa using ho
  have hr := h3 i o ho'
  rw [List.nil_append] at h1 hr
  unfold waits at h ⊢
  rw [h1] at h ⊢
  have hg : r.getD i 0 = foldA (r.take i) o := by rw [List.getD_eq_getElem?_getD, hr]; rfl
  rw [hg] at h
  rcases foldA_bit _ _ h with h4 | ⟨e, he, hbe, h4⟩
  · simp at h4
  · have hlt : e.on < i := by have := edgesBack_spec ops.toList 0 hb i o ho' e he hbe; omega
    refine ⟨e, he, hbe, hlt, h4.imp id fun h5 => ?_⟩
    have : (r.take i).getD e.on 0 = r.getD e.on 0 := by
      rw [List.getD_eq_getElem?_getD, List.getD_eq_getElem?_getD, List.getElem?_take, if_pos hlt]
    rw [this] at h5; exact h5

/-- Closed under the edges. -/
def Cl (ops : Array Oper) (S : Nat → Prop) : Prop := ∀ i o, ops[i]? = some o → S i → ∀ e ∈ o.after.toList, Region.binds .any e = true → S e.on

theorem waits_in (hb : edgesBack ops.toList 0 = true) {S : Nat → Prop} (hcl : Cl ops S) : ∀ (i : Nat) (o : Oper) (j : Nat), ops[i]? = some o → (∀ e ∈ o.after.toList, Region.binds .any e = true → S e.on) →
    waits (ancL ops.toList []) i j = true → S j := by
  intro i
  induction i using Nat.strongRecOn with
  | _ i ih =>
    intro o j ho hr hw
    obtain ⟨e, he, hbe, hlt, h4⟩ := anc_spec hb ho hw
    have hs := hr e he hbe
    rcases h4 with rfl | h4
    · exact hs
    · have hlt' : e.on < ops.size := Nat.lt_trans hlt (Array.getElem?_eq_some_iff.1 ho).1
      exact ih e.on hlt ops[e.on] j (by simp [hlt']) (hcl e.on _ (by simp [hlt']) hs) h4

theorem waits_of (hb : edgesBack ops.toList 0 = true) {S : Nat → Prop} (hcl : Cl ops S) {i j : Nat} {o : Oper} (ho : ops[i]? = some o) (hs : S i) (hw : waits (ancL ops.toList []) i j = true) : S j :=
  waits_in hb hcl i o j ho (hcl i o ho hs) hw

def dstAt (ops : Array Oper) (i : Nat) : Option Nat := (ops[i]?).bind (·.dst)

end

section
variable {P : Program} {C : CallT} {n : Nat} {ops : Array Oper} {xs : List IOper}

theorem compOpers_get : ∀ {os : List Oper} {xs : List IOper}, compOpers P n ops os = some xs → xs.length = os.length ∧ ∀ (i : Nat) (o : Oper), os[i]? = some o → ∃ x, xs[i]? = some x ∧ compOper P n ops o = some x
  | [], xs, h => by simp only [compOpers, Option.some.injEq] at h; subst h; exact ⟨rfl, by simp⟩
  | o :: os, xs, h => by
    simp only [compOpers] at h
    cases hx : compOper P n ops o with
    | none => rw [hx] at h; simp at h
    | some x =>
      cases hxs : compOpers P n ops os with
      | none => rw [hx, hxs] at h; simp at h
      | some r =>
        rw [hx, hxs] at h
        simp only [Option.some.injEq] at h
        subst h
        obtain ⟨h1, h2⟩ := compOpers_get hxs
        refine ⟨by simp [h1], fun i o' hi => ?_⟩
        cases i with
        | zero => simp at hi; subst hi; exact ⟨x, by simp, hx⟩
        | succ i =>
          obtain ⟨y, hy, hc⟩ := h2 i o' (by simpa using hi)
          exact ⟨y, by simpa using hy, hc⟩

/-- What a made operation is. -/
structure CompOf (P : Program) (n : Nat) (ops : Array Oper) (o : Oper) (x : IOper) : Prop where
  op : compOp P o = some x.op
  guard : compGuard ops o.guard = some x.guard
  dst : x.dst = o.dst
  lt : ∀ d, o.dst = some d → d < n
  glt : ∀ d b, x.guard = some (d, b) → d < n

theorem compOper_spec {o : Oper} {x : IOper} (h : compOper P n ops o = some x) : CompOf P n ops o x := by
  unfold compOper at h
  split at h
  case h_2 => cases h
  rename_i io g hio hg
  split at h
  case isFalse => cases h
  rename_i hcond
  injection h with h
  subst h
  simp only [Bool.and_eq_true] at hcond
  exact ⟨hio, hg, rfl, fun d hd => by have := hcond.1; rw [hd] at this; simpa [ltO] using this, fun d b hgb => by have := hcond.2; simp only [] at hgb; rw [hgb] at this; simpa [ltG] using this⟩

/-- Environments that agree on all that an operation reads. -/
def Agree (ops : Array Oper) (o : Oper) (E E' : Env) : Prop := ∀ d ∈ readsI ops o, E d = E' d

theorem Agree.opnds {o : Oper} {x : IOper} (hx : CompOf P n ops o x) {E E' : Env} (h : Agree ops o E E') : ∀ y ∈ x.op.opnds, ev E y = ev E' y := by
  intro y hy
  rcases (comp_fine hx.op).mem y hy with h1 | ⟨v, rfl⟩
  · cases y with
    | tmp t => exact h t (by unfold readsI Oper.looksAt; exact List.mem_append_left _ (List.mem_filterMap.2 ⟨.tmp t, h1, rfl⟩))
    | _ => rfl
  · rfl

theorem Agree.guard {o : Oper} {x : IOper} (hx : CompOf P n ops o x) {E E' : Env} (h : Agree ops o E E') : wantedI E x.guard = wantedI E' x.guard := by
  refine wantedI_congr fun d b hd => h d ?_
  have hg := hx.guard
  rw [hd] at hg
  cases hog : o.guard with
  | none => rw [hog] at hg; simp [compGuard] at hg
  | some jw =>
    obtain ⟨j, w⟩ := jw
    rw [hog] at hg
    simp only [compGuard] at hg
    cases hj : (ops[j]?).bind (·.dst) with
    | none => rw [hj] at hg; simp at hg
    | some d' =>
      rw [hj] at hg
      simp only [Option.some.injEq, Prod.mk.injEq] at hg
      unfold readsI Oper.looksAt
      rw [hog]
      simp only [hj]
      exact List.mem_append_right _ (by simp [hg.1])

theorem Agree.ird {o : Oper} {x : IOper} (hx : CompOf P n ops o x) {E E' : Env} (h : Agree ops o E E') (H : IHeap) : ird P E H x.op = ird P E' H x.op := ird_congr (comp_fine hx.op).sel (h.opnds hx)
theorem Agree.ial {o : Oper} {x : IOper} (hx : CompOf P n ops o x) {E E' : Env} (h : Agree ops o E E') : ial E x.op = ial E' x.op := ial_congr (h.opnds hx)
theorem Agree.iop {o : Oper} {x : IOper} (hx : CompOf P n ops o x) {E E' : Env} (h : Agree ops o E E') (H : IHeap) (K : Value → IHeap → Prop) : iop P C E H x.op K = iop P C E' H x.op K := iop_congr (comp_fine hx.op).sel (h.opnds hx)

end
end Go.Proofs.YtpklgklmjhblpaaI
