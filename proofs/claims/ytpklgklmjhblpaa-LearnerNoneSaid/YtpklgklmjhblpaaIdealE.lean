/- Operations that turn nothing: the model's, held against the ideal ones. -/
import Derived.Test.YtpklgklmjhblpaaIdealD
namespace Go.Proofs.YtpklgklmjhblpaaI
set_option linter.unusedSimpArgs false
set_option linter.unusedVariables false
open Go

theorem pureRun_bind {α β : Type} (P : Program) (s : Sem α) (f : α → Sem β) : pureRun P (s.bind f) = (pureRun P s).bind fun a => pureRun P (f a) := by
  induction s with
  | pure b => rfl
  | program k ih => simp only [Sem.bind, pureRun]; exact ih _
  | mark m k ih => simp only [Sem.bind, pureRun]; exact ih
  | _ => rfl
theorem pureRun_bind' {α β : Type} (P : Program) (s : Sem α) (f : α → Sem β) : pureRun P (s >>= f) = (pureRun P s).bind fun a => pureRun P (f a) := pureRun_bind P s f
theorem pureRun_pure {α : Type} (P : Program) (a : α) : pureRun P (pure a : Sem α) = some a := rfl
theorem pureRun_under {P : Program} {t : TypeId} {d : TypeDesc} (h : P.underlying t = some d) : pureRun P (underlying t) = some d := by
  unfold underlying; rw [pureRun_bind']; show pureRun P (match P.underlying t with | some d => _ | none => _) = _; rw [h]; rfl

section
variable {P : Program} {n : Nat} {R : Ren} {H : IHeap} {w : World} {T : Env} {a : Act}

theorem okOs_mem {l : List Operand} (h : okOs l = true) {x : Operand} (hx : x ∈ l) : okO x = true := List.all_eq_true.1 h x hx

theorem sim_raw {o : Oper} (hT : TRel n R T a.tmps) (hsel : ∀ cs b, o.op ≠ .select cs b) (hok : okOs o.op.operands.toList = true) {v : Value}
    (h : ird P T H (.raw o.op o.type) = some v) (w : World) : ∃ v', (execOp a.eval o).run P w = .ok (.value v') w ∧ VR R v v' := by
  simp only [ird] at h
  split at h
  · rename_i hs
    split at h
    · rename_i u hu
      split at h
      · rename_i hsc
        injection h with h
        subst h
        refine ⟨u, ?_, VR.of_scal R hsc⟩
        have e : execOp a.eval o = execOp (ev T) o := execOp_congr o hsel fun x hx => by
          have hx' : x ∈ o.op.operands.toList := by simpa using hx
          exact (ev_rel hT (okOs_mem hok hx')).scal_eq (List.all_eq_true.1 hs x hx')
        rw [e]
        exact pureRun_run (s := execOp (ev T) o) hu w
      · cases h
    · cases h
  · cases h

theorem VR.int_inv {v' : Value} {k : IntKind} {i : Int} (h : VR R (.int k i) v') : v' = .int k i := by cases h; rfl
theorem VR.bool_inv {v' : Value} {b : Bool} (h : VR R (.bool b) v') : v' = .bool b := by cases h; rfl
theorem VR.string_inv {v' : Value} {s : ByteArray} (h : VR R (.string s) v') : v' = .string s := by cases h; rfl
theorem VR.ptr_inv {v' : Value} {b o : Nat} (h : VR R (.pointer (some ⟨b, o, none⟩)) v') : v' = .pointer (some ⟨R.blk b, R.base b + o, none⟩) ∧ R.dom b := by
  cases h; exact ⟨rfl, by assumption⟩
theorem VR.ptr_inv' {v' : Value} {x : Addr} (h : VR R (.pointer (some x)) v') : ∃ y, v' = .pointer (some y) := by cases h; exact ⟨_, rfl⟩
theorem VR.agg_inv {v' : Value} {cs : Array Value} (h : VR R (.agg cs) v') : ∃ cs', v' = .agg cs' ∧ VRs R cs.toList cs'.toList := by cases h; exact ⟨_, rfl, by assumption⟩
theorem VR.tuple_inv {v' : Value} {cs : Array Value} (h : VR R (.tuple cs) v') : ∃ cs', v' = .tuple cs' ∧ VRs R cs.toList cs'.toList := by cases h; exact ⟨_, rfl, by assumption⟩
theorem VR.iface_inv {v' v : Value} {t : TypeId} (h : VR R (.iface t v) v') : ∃ u, v' = .iface t u ∧ VR R v u := by cases h; exact ⟨_, rfl, by assumption⟩
theorem VR.func_inv {v' : Value} {f : FuncId} {x y : Array Value} (h : VR R (.func (.func f) x y) v') : ∃ x' y', v' = .func (.func f) x' y' ∧ VRs R x.toList x'.toList ∧ VRs R y.toList y'.toList := by
  cases h; exact ⟨_, _, rfl, by assumption, by assumption⟩
theorem VR.slice_len {v' : Value} {x : Option Addr} {l c : Nat} (h : VR R (.slice x l c) v') : ∃ x' c', v' = .slice x' l c' := by
  cases h <;> exact ⟨_, _, rfl⟩

theorem VR.slice_nil {v' : Value} {l c : Nat} (h : VR R (.slice none l c) v') : v' = .slice none 0 0 ∧ l = 0 ∧ c = 0 := by cases h; exact ⟨rfl, rfl, rfl⟩
theorem VR.slice_some {v' : Value} {x : Addr} {l c : Nat} (h : VR R (.slice (some x) l c) v') : R.dom x.block ∧ x.spot = none ∧
    ((∃ c', v' = .slice (some ⟨R.blk x.block, R.base x.block + x.off, none⟩) l c') ∨ (l = 0 ∧ ∃ a', v' = .slice (some a') 0 0)) := by
  cases h with
  | sliceEx b o _ _ hb => exact ⟨hb, rfl, .inl ⟨_, rfl⟩⟩
  | sliceGr b o _ _ _ hb => exact ⟨hb, rfl, .inl ⟨_, rfl⟩⟩
  | sliceEm b o _ _ hb => exact ⟨hb, rfl, .inr ⟨rfl, _, rfl⟩⟩
  | sliceZ b o _ hb => exact ⟨hb, rfl, .inr ⟨rfl, _, rfl⟩⟩

theorem natI_rel (hT : TRel n R T a.tmps) {x : Operand} (hx : okO x = true) {i : Nat} (h : natI T x = some i) : ∃ k z, a.eval x = .int k z ∧ 0 ≤ z ∧ z.toNat = i := by
  have hr := ev_rel hT hx
  unfold natI at h
  cases he : ev T x <;> rw [he] at h hr <;> simp at h
  exact ⟨_, _, hr.int_inv, h.1, h.2⟩

theorem run_bound {x : Operand} {i : Int} {y : Nat} {code : BoundsCode} {k : IntKind} (he : a.eval x = .int k i) (h0 : 0 ≤ i) (hy : i.toNat ≤ y) :
    (Instr.sliceBound (a.eval x) y code).run P w = .ok i.toNat w := by
  unfold Instr.sliceBound
  rw [he]
  simp only [asIntOf, pure_bind]
  rw [if_pos ⟨h0, by omega⟩]
  rfl

theorem run_bounds (hT : TRel n R T a.tmps) {lo hi mx : Option Operand} (hl : ∀ x, lo = some x → okO x = true) (hh : ∀ x, hi = some x → okO x = true) (hm : ∀ x, mx = some x → okO x = true)
    {len c' l h : Nat} {m : Option Nat} {isS : Bool} (hb : boundsI T len lo hi mx = some (l, h, m)) (hmc : ∀ x, m = some x → x ≤ c') (hhc : m = none → h ≤ c') :
    (Instr.sliceBounds isS len c' (lo.map a.eval) (hi.map a.eval) (mx.map a.eval)).run P w = .ok (l, h, m.getD c') w ∧ l ≤ h ∧ (∀ x, m = some x → h ≤ x) := by
  unfold boundsI at hb
  split at hb
  · rename_i m' h' l' hm' hh' hl'
    split at hb
    · rename_i hc
      simp only [Option.some.injEq, Prod.mk.injEq] at hb
      obtain ⟨rfl, rfl, rfl⟩ := hb
      have hmx : ∀ x, m' = some x → h' ≤ x := by rintro x rfl; simpa using hc.2
      refine ⟨?_, hc.1, hmx⟩
      have hmq := hmc
      clear hmc
      unfold Instr.sliceBounds
      cases mx with
      | none =>
        simp only [Option.some.injEq] at hm'
        subst hm'
        have hhq := hhc rfl
        cases hi with
        | none =>
          simp at hh'
          subst hh'
          cases lo with
          | none => simp at hl'; subst hl'; rfl
          | some v =>
            obtain ⟨k, z, hz, h0, hq⟩ := natI_rel hT (hl v rfl) hl'
            subst hq
            simp only [Option.map_some, Option.map_none, Option.getD_none, Option.isSome_none, pure_bind, Sem.run_bind]
            rw [run_bound hz h0 hc.1]
            rfl
        | some u =>
          obtain ⟨k, z, hz, h0, hq⟩ := natI_rel hT (hh u rfl) hh'
          subst hq
          cases lo with
          | none =>
            simp at hl'
            subst hl'
            simp only [Option.map_some, Option.map_none, Option.getD_none, pure_bind, Sem.run_bind]
            rw [run_bound hz h0 hhq]
            rfl
          | some v =>
            obtain ⟨k2, z2, hz2, h02, hq2⟩ := natI_rel hT (hl v rfl) hl'
            subst hq2
            simp only [Option.map_some, Option.map_none, Option.getD_none, pure_bind, Sem.run_bind]
            rw [run_bound hz h0 hhq]
            simp only [Result.andThen_ok]
            rw [run_bound hz2 h02 hc.1]
            rfl
      | some x =>
        cases hx : natI T x with
        | none => simp [hx] at hm'
        | some q =>
          simp only [hx, Option.map_some, Option.some.injEq] at hm'
          subst hm'
          obtain ⟨k3, z3, hz3, h03, hq3⟩ := natI_rel hT (hm x rfl) hx
          have hqc := hmq _ rfl
          have hhq := hmx _ rfl
          subst hq3
          cases hi with
          | none => simp at hh'
          | some u =>
            obtain ⟨k, z, hz, h0, hq⟩ := natI_rel hT (hh u rfl) hh'
            subst hq
            cases lo with
            | none =>
              simp at hl'
              subst hl'
              simp only [Option.map_some, Option.map_none, Option.getD_some, Sem.run_bind]
              rw [run_bound hz3 h03 hqc]
              simp only [Result.andThen_ok]
              rw [run_bound hz h0 hhq]
              rfl
            | some v =>
              obtain ⟨k2, z2, hz2, h02, hq2⟩ := natI_rel hT (hl v rfl) hl'
              subst hq2
              simp only [Option.map_some, Option.getD_some, Sem.run_bind]
              rw [run_bound hz3 h03 hqc]
              simp only [Result.andThen_ok]
              rw [run_bound hz h0 hhq]
              simp only [Result.andThen_ok]
              rw [run_bound hz2 h02 hc.1]
              rfl
    · cases hb
  · cases hb

/-- What a slice's slice is, in the model's words. -/
theorem sliceI_rel (hS : Sim R H w) {size len cap l h : Nat} {m : Option Nat} {x : Option Addr} {v y : Value} (hv : VR R (.slice x len cap) v) (hlh : l ≤ h) (hhm : ∀ q, m = some q → h ≤ q)
    (hi : sliceI H size x len cap l h m = some y) : ∃ x' c', v = .slice x' len c' ∧ (∀ q, m = some q → q ≤ c') ∧ (m = none → h ≤ c') ∧
      VR R y (.slice (if m.getD c' = l then x' else x'.map (·.add (l * size))) (h - l) (m.getD c' - l)) := by
  have hmax : h ≤ m.getD h := by cases m with | none => exact Nat.le_refl _ | some q => exact hhm q rfl
  cases hv with
  | sliceNil =>
    unfold sliceI at hi
    rw [if_pos (by unfold UNK; omega)] at hi
    split at hi
    · rename_i hc
      injection hi with hi
      refine ⟨none, 0, rfl, ?_, ?_, ?_⟩
      · rintro q rfl; simpa using hc.2
      · rintro rfl; simpa using hc.1
      · have : m.getD 0 = 0 := by omega
        have hl : l = 0 := by omega
        have hh : h = 0 := by omega
        subst hl; subst hh
        rw [← hi, this]
        simp
        exact .sliceNil
    · cases hi
  | sliceEx b o len c hb hc =>
    unfold sliceI at hi
    rw [if_pos hc] at hi
    split at hi
    · rename_i hc'
      injection hi with hi
      refine ⟨_, _, rfl, ?_, ?_, ?_⟩
      · rintro q rfl; simpa using hc'.2
      · rintro rfl; simpa using hc'.1
      · rw [← hi]
        by_cases hz : m.getD cap = l
        · simp only [hz, if_true]
          exact .sliceEx b o _ _ hb (by omega)
        · simp only [if_neg hz, Option.map_some, add_lit]
          rw [Nat.add_assoc]
          exact .sliceEx b _ _ _ hb (by omega)
    · cases hi
  | sliceZ b o a' hb =>
    unfold sliceI at hi
    rw [if_pos (by unfold UNK; omega)] at hi
    split at hi
    · rename_i hc
      injection hi with hi
      refine ⟨_, 0, rfl, ?_, ?_, ?_⟩
      · rintro q rfl; simpa using hc.2
      · rintro rfl; simpa using hc.1
      · have : m.getD 0 = 0 := by omega
        have hl : l = 0 := by omega
        have hh : h = 0 := by omega
        subst hl; subst hh
        rw [← hi, this]
        simp
        exact .sliceZ _ _ _ hb
    · cases hi
  | sliceGr b o len c e hb he hlc h1 h2 =>
    unfold sliceI at hi
    rw [if_neg (by unfold UNK; omega)] at hi
    simp only [] at hi
    split at hi
    · rename_i hsz
      have hes : e = size := by have := hsz.1; omega
      subst hes
      have hcond := hsz.2.2
      · have hle : m.getD h ≤ c := by
          rcases hcond with hq | hq
          · omega
          · have ho := hS.obj b hb
            cases hg : H.get b with
            | none => simp [fitsI, hg] at hq
            | some ob =>
              cases ob with
              | cells cs ro =>
                rw [hg] at ho
                simp [fitsI, hg] at hq
                have hcs := ho.1
                have : m.getD h * e ≤ c * e := by omega
                exact Nat.le_of_mul_le_mul_right this he
              | _ => simp [fitsI, hg] at hq
        refine ⟨_, c, rfl, ?_, ?_, ?_⟩
        · rintro q rfl; simpa using hle
        · rintro rfl; simpa using hle
        · cases m with
          | none =>
            simp only [Option.some.injEq] at hi
            subst hi
            simp only [Option.getD_none] at hle ⊢
            by_cases hz : c = l
            · have : h = l := by omega
              subst this; subst hz
              simp only [if_true, Nat.sub_self]
              exact .sliceEm b _ e _ hb he h1
            · rw [if_neg hz]
              simp only [Option.map_some, add_lit]
              rw [Nat.add_assoc]
              have hmul : l * e + (c - l) * e = c * e := by rw [← Nat.add_mul]; congr 1; omega
              exact .sliceGr b _ _ _ e hb he (by omega) (by omega) (by omega)
          | some q =>
            simp only [Option.getD_some] at hle ⊢
            simp only [] at hi
            split at hi
            · rename_i hq
              injection hi with hi
              subst hi
              by_cases hz : q = l
              · simp only [hz, if_true]
                exact .sliceEx b o _ _ hb (by omega)
              · simp only [if_neg hz, Option.map_some, add_lit]
                rw [Nat.add_assoc]
                exact .sliceEx b _ _ _ hb (by omega)
            · cases hi
    · cases hi
  | sliceEm b o e a' hb he h1 =>
    unfold sliceI at hi
    rw [if_neg (by unfold UNK; omega)] at hi
    simp only [] at hi
    split at hi
    · rename_i hsz
      have hes : e = size := by have := hsz.1; omega
      subst hes
      have hcond := hsz.2.2
      · have hz : m.getD h = 0 := by
          rcases hcond with hq | hq
          · omega
          · have ho := hS.obj b hb
            cases hg : H.get b with
            | none => simp [fitsI, hg] at hq
            | some ob =>
              cases ob with
              | cells cs ro =>
                rw [hg] at ho
                simp [fitsI, hg] at hq
                have hcs := ho.1
                have : m.getD h * e ≤ 0 * e := by omega
                have := Nat.le_of_mul_le_mul_right this he
                omega
              | _ => simp [fitsI, hg] at hq
        have hh : h = 0 := by omega
        have hl : l = 0 := by omega
        subst hh; subst hl
        refine ⟨_, 0, rfl, ?_, ?_, ?_⟩
        · rintro q rfl; simpa using hz
        · rintro rfl; exact Nat.zero_le _
        · cases m with
          | none =>
            simp only [Option.some.injEq] at hi
            subst hi
            simp
            exact .sliceEm b o e _ hb he h1
          | some q =>
            simp only [Option.getD_some] at hz
            subst hz
            simp at hi
            obtain ⟨_, hi⟩ := hi
            subst hi
            simp
            exact .sliceZ _ _ _ hb
    · cases hi

theorem findAsk_rel {kt : TypeId} {k : Value} : ∀ {es es' : List MapEntry}, ERels R es es' → (∀ e ∈ es, scal e.key = true) → ∀ (i : Nat) (r : Option Nat), findI P kt k es i = some r →
    (Instr.findAsking kt k es' i).run P w = .ok (r.bind fun j => (es'[j - i]?).map fun e => (j, e.val)) w ∧ (∀ j, r = some j → i ≤ j ∧ j - i < es'.length)
  | _, _, .nil, _, i, r, h => by
    simp only [findI, Option.some.injEq] at h
    subst h
    exact ⟨rfl, by simp⟩
  | _, _, .cons (e := e) (e' := e') (l := es) (l' := es') he hes, hs, i, r, h => by
    have hk : e'.key = e.key := he.key.scal_eq (hs e (by simp))
    simp only [findI] at h
    simp only [Instr.findAsking, Sem.run_bind, hk]
    split at h
    · rename_i hq
      injection h with h
      subst h
      rw [pureRun_run hq]
      exact ⟨by simp, by simp⟩
    · rename_i hq
      rw [pureRun_run hq]
      obtain ⟨h1, h2⟩ := findAsk_rel hes (fun e he => hs e (by simp [he])) (i + 1) r h
      refine ⟨?_, fun j hj => ?_⟩
      · simp only [Result.andThen_ok, Bool.false_eq_true, if_false]
        rw [h1]
        cases r with
        | none => rfl
        | some j =>
          obtain ⟨h3, h4⟩ := h2 j rfl
          simp only [Option.bind_some]
          rw [show j - i = (j - (i + 1)) + 1 by omega, List.getElem?_cons_succ]
      · obtain ⟨h3, h4⟩ := h2 j hj
        exact ⟨by omega, by simp; omega⟩
    · cases h

theorem sameNow_eq {kt : TypeId} {d : TypeDesc} (hu : P.underlying kt = some d) {k x : Value} {b : Bool} (h : Instr.sameNow d k x = some b) : pureRun P (Op.equal kt k x) = some b := by
  unfold Op.equal Op.maxDepth
  rw [show (10000 : Nat) = 9999 + 1 from rfl]
  unfold Op.equalIn
  rw [pureRun_bind', pureRun_under hu]
  simp only [Option.bind_some]
  unfold Instr.sameNow at h
  split at h
  · split at h
    · rename_i hk; simp only [hk, if_true]; injection h with h; subst h; rfl
    · cases h
  · injection h with h; subst h; rfl
  · injection h with h; subst h; rfl
  · cases h

theorem findNow_rel {kt : TypeId} {d : TypeDesc} (hu : P.underlying kt = some d) {k : Value} : ∀ {es es' : List MapEntry}, ERels R es es' → (∀ e ∈ es, scal e.key = true) → ∀ (i : Nat) (r : Option Nat) (q : Option (Nat × Value)),
    findI P kt k es i = some r → Instr.findNow d k es' i = some q → q = r.bind fun j => (es'[j - i]?).map fun e => (j, e.val)
  | _, _, .nil, _, i, r, q, h, h' => by
    simp only [findI, Option.some.injEq] at h
    subst h
    simp [Instr.findNow] at h'
    simp [← h']
  | _, _, .cons (e := e) (e' := e') (l := es) (l' := es') he hes, hs, i, r, q, h, h' => by
    have hk : e'.key = e.key := he.key.scal_eq (hs e (by simp))
    simp only [findI] at h
    simp only [Instr.findNow, hk] at h'
    split at h'
    · rename_i hq
      rw [sameNow_eq hu hq] at h
      simp only [Option.some.injEq] at h h'
      subst h; subst h'
      simp
    · rename_i hq
      rw [sameNow_eq hu hq] at h
      simp only [] at h
      have ih := findNow_rel hu hes (fun e he => hs e (by simp [he])) (i + 1) r q h h'
      rw [ih]
      cases r with
      | none => rfl
      | some j =>
        have h2 := (findAsk_rel (P := P) (w := default) hes (fun e he => hs e (by simp [he])) (i + 1) (some j) h).2 j rfl
        simp only [Option.bind_some]
        rw [show j - i = (j - (i + 1)) + 1 by omega, List.getElem?_cons_succ]
    · cases h'

theorem find_rel {kt : TypeId} {d : TypeDesc} (hu : P.underlying kt = some d) {k : Value} {es : List MapEntry} {es' : List MapEntry} (he : ERels R es es') (hs : ∀ e ∈ es, scal e.key = true) {r : Option Nat}
    (h : findI P kt k es 0 = some r) : (Instr.findKey kt k es').run P w = .ok (r.bind fun j => (es'[j]?).map fun e => (j, e.val)) w ∧ (∀ j, r = some j → j < es'.length) := by
  obtain ⟨h1, h2⟩ := findAsk_rel (P := P) (w := w) he hs 0 r h
  refine ⟨?_, fun j hj => by simpa using (h2 j hj).2⟩
  unfold Instr.findKey
  simp only [Sem.run_bind, run_under hu, Result.andThen_ok]
  split
  · rename_i q hq
    rw [findNow_rel hu he hs 0 r q h hq]
    simp
  · simpa using h1

theorem keyOk_spec {kt : TypeId} {k : Value} {es : List MapEntry} (h : keyOk P kt k es = true) : scal k = true ∧ (∀ e ∈ es, scal e.key = true) ∧
    (∀ w, (Instr.checkKey es.isEmpty 10000 kt k).run P w = .ok () w) ∧ (∀ w, (Instr.checkKey false 10000 kt k).run P w = .ok () w) ∧ ∃ d, P.underlying kt = some d := by
  unfold keyOk at h
  simp only [Bool.and_eq_true, List.all_eq_true] at h
  obtain ⟨⟨⟨h1, h2⟩, h3⟩, h4⟩ := h
  obtain ⟨u, hu⟩ := Option.isSome_iff_exists.1 h4
  obtain ⟨u', hu'⟩ := Option.isSome_iff_exists.1 h3
  refine ⟨h1, h2, fun w => pureRun_run hu' w, fun w => pureRun_run hu w, ?_⟩
  cases hq : P.underlying kt with
  | some d => exact ⟨d, rfl⟩
  | none =>
    exfalso
    rw [show (10000 : Nat) = 9999 + 1 from rfl] at hu
    unfold Instr.checkKey at hu
    rw [pureRun_bind'] at hu
    simp [underlying, pureRun_bind', pureRun, program, hq, stuck] at hu

end
end Go.Proofs.YtpklgklmjhblpaaI
