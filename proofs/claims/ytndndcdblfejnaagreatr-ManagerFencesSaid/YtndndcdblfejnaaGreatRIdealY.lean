/- A machine for closed code; what it tells of calls; closed calls as something that is known besides. -/
import Derived.Test.YtndndcdblfejnaaGreatRIdealX
namespace Go.Proofs.YtndndcdblfejnaaGreatRI
set_option linter.unusedSimpArgs false
set_option linter.unusedVariables false
open Go

abbrev Rec := ICode → Env → IHeap → Option (Exit × Env × IHeap)

def sameAddr (a b : Option Addr) : Bool := match a, b with
  | none, none => true
  | some a, some b => a.block == b.block && a.off == b.off && a.spot == b.spot
  | _, _ => false
theorem sameAddr_eq {a b : Option Addr} (h : sameAddr a b = true) : a = b := by
  unfold sameAddr at h
  split at h
  · rfl
  · rename_i a b
    simp only [Bool.and_eq_true, beq_iff_eq] at h
    cases a; cases b; simp_all
  · cases h

/-- Are these the same cell? (false, too, where it is not seen) -/
def sameC : Value → Value → Bool
  | .bool a, .bool b => a == b
  | .int k a, .int k' b => decide (k = k') && decide (a = b)
  | .string a, .string b => decide (a.data.toList = b.data.toList)
  | .pointer a, .pointer b => sameAddr a b
  | .slice a n c, .slice a' n' c' => sameAddr a a' && n == n' && c == c'
  | .map a, .map b => match a, b with
    | none, none => true
    | some a, some b => a == b
    | _, _ => false
  | .nilFunc, .nilFunc => true
  | .nilIface, .nilIface => true
  | _, _ => false
theorem sameC_eq {a b : Value} (h : sameC a b = true) : a = b := by
  unfold sameC at h
  split at h
  · simp at h; rw [h]
  · simp at h; rw [h.1, h.2]
  · rename_i a b; have h1 := of_decide_eq_true h; congr 1; cases a; cases b; simp at h1; simp [h1]
  · rw [sameAddr_eq h]
  · simp only [Bool.and_eq_true, beq_iff_eq] at h; rw [sameAddr_eq h.1.1, h.1.2, h.2]
  · split at h <;> simp_all
  · rfl
  · rfl
  · cases h
def sameL : List Value → List Value → Bool
  | [], [] => true
  | a :: x, b :: y => sameC a b && sameL x y
  | _, _ => false
theorem sameL_eq : ∀ {a b : List Value}, sameL a b = true → a = b
  | [], [], _ => rfl
  | a :: x, b :: y, h => by
    simp only [sameL, Bool.and_eq_true] at h
    rw [sameC_eq h.1, sameL_eq h.2]
  | [], _ :: _, h => by simp [sameL] at h
  | _ :: _, [], h => by simp [sameL] at h
def sameV : Value → Value → Bool
  | .agg a, .agg b => sameL a.toList b.toList
  | a, b => sameC a b
theorem sameV_eq {a b : Value} (h : sameV a b = true) : a = b := by
  unfold sameV at h
  split at h
  · rename_i a b; have := sameL_eq h; cases a; cases b; simp at this; rw [this]
  · exact sameC_eq h

section
variable (P : Program) (IP : FuncId → Option IFunc)

def icallR (rec : Rec) (f : FuncId) (args : List Value) (H : IHeap) : Option (Value × IHeap) :=
  match IP f with
  | some g => match Nat.ble args.length g.ntmps, rec g.body (envOf args) H with
    | true, some (.ret, T, H') => match ires T H' g.results with
      | some r => some (r, H')
      | none => none
    | true, some (.normal, T, H') => match ires T H' g.results with
      | some r => some (r, H')
      | none => none
    | _, _ => none
  | none => none

def iopR (rec : Rec) (T : Env) (H : IHeap) (o : IOp) : Option (Value × IHeap) :=
  match o.kind with
  | .rd => match ird P T H o with
    | some v => some (v, H)
    | none => none
  | .al => match ial T o with
    | some r => some (r.2 H.next, H.alloc r.1)
    | none => none
  | .ac => iact P T H o
  | .ca => match o with
    | .call f args => icallR IP rec f (args.map (ev T)) H
    | .callDyn f args => match ev T f with
      | .func (.func g) a b => icallR IP rec g (a.toList ++ args.map (ev T) ++ b.toList) H
      | _ => none
    | _ => none

def iopsR (rec : Rec) : List IOper → Env → IHeap → Option (Env × IHeap)
  | [], T, H => some (T, H)
  | o :: os, T, H => match wantedI T o.guard with
    | true => match iopR P IP rec T H o.op with
      | some (v, H') => iopsR rec os (T.put o.dst v) H'
      | none => none
    | false => iopsR rec os (T.put o.dst undef) H

def stillB (T : Env) (H : IHeap) (o : IOper) : Bool :=
  match wantedI T o.guard, o.dst with
  | true, some d => match ird P T H o.op with
    | some v => sameV v (T d)
    | none => false
  | true, none => (ird P T H o.op).isSome
  | false, _ => true

def idrawR (rec : Rec) : List (IOper × List IOper) → Env → IHeap → Option (Env × IHeap)
  | [], T, H => some (T, H)
  | (o, st) :: os, T, H => match wantedI T o.guard with
    | true => match iopR P IP rec T H o.op with
      | some (v, H') => match st.all (stillB P (T.put o.dst v) H') with
        | true => idrawR rec os (T.put o.dst v) H'
        | false => none
      | none => none
    | false => idrawR rec os (T.put o.dst undef) H

def iexec : Nat → Rec
  | 0, _, _, _ => none
  | n + 1, c, T, H => match c with
    | .skip => some (.normal, T, H)
    | .ops l => match iopsR P IP (iexec n) l T H with
      | some (T', H') => some (.normal, T', H')
      | none => none
    | .draw l => match idrawR P IP (iexec n) l T H with
      | some (T', H') => some (.normal, T', H')
      | none => none
    | .seq a b => match iexec n a T H with
      | some (.normal, T', H') => iexec n b T' H'
      | r => r
    | .cond c a b => match ev T c with
      | .bool true => iexec n a T H
      | .bool false => iexec n b T H
      | _ => none
    | .block id a => match iexec n a T H with
      | some (.exit id', T', H') => if id' = id then some (.normal, T', H') else some (.exit id', T', H')
      | r => r
    | .loop a => match iexec n a T H with
      | some (.normal, T', H') => iexec n (.loop a) T' H'
      | r => r
    | .exit id => some (.exit id, T, H)
    | .ret => some (.ret, T, H)

end

section
variable {P : Program} {IP IP' : FuncId → Option IFunc} {X : CallT}

/-- What a machine of this depth tells is so. -/
def Tells (P : Program) (C : CallT) (rec : Rec) : Prop := ∀ c T H e T' H', rec c T H = some (e, T', H') → ∀ Q : Exit → Env → IHeap → Prop, Q e T' H' → iwp P C c Q T H

variable (hX : LeC X X) (hIP : ∀ f g, IP' f = some g → IP f = some g)
include hX hIP

theorem icallR_sound {rec : Rec} (hr : Tells P (ICall P IP X) rec) {f : FuncId} {args : List Value} {H H' : IHeap} {v : Value} (h : icallR IP' rec f args H = some (v, H')) {K : Value → IHeap → Prop} (hK : K v H') : ICall P IP X f args H K := by
  unfold icallR at h
  split at h
  case h_2 => cases h
  rename_i g hg
  refine ICall.fold hX (hIP f g hg) ?_
  split at h
  · rename_i T H2 hn he
    split at h
    · rename_i r hr'
      injection h with h; injection h with h1 h2; subst h1; subst h2
      exact ⟨Nat.le_of_ble_eq_true hn, hr _ _ _ _ _ _ he _ ⟨r, hr', hK⟩⟩
    · cases h
  · rename_i T H2 hn he
    split at h
    · rename_i r hr'
      injection h with h; injection h with h1 h2; subst h1; subst h2
      exact ⟨Nat.le_of_ble_eq_true hn, hr _ _ _ _ _ _ he _ ⟨r, hr', hK⟩⟩
    · cases h
  · cases h

theorem iopR_sound {rec : Rec} (hr : Tells P (ICall P IP X) rec) {T : Env} {H H' : IHeap} {o : IOp} {v : Value} (h : iopR P IP' rec T H o = some (v, H')) {K : Value → IHeap → Prop} (hK : K v H') : iop P (ICall P IP X) T H o K := by
  unfold iopR at h
  unfold iop
  split at h
  · rename_i hk
    rw [hk]
    split at h
    · rename_i u hu
      injection h with h; injection h with h1 h2; subst h1; subst h2
      exact ⟨u, hu, hK⟩
    · cases h
  · rename_i hk
    rw [hk]
    split at h
    · rename_i r hu
      injection h with h; injection h with h1 h2; subst h1; subst h2
      exact ⟨r, hu, hK⟩
    · cases h
  · rename_i hk
    rw [hk]
    exact ⟨_, h, hK⟩
  · rename_i hk
    rw [hk]
    simp only []
    unfold icall
    split at h
    · exact icallR_sound hX hIP hr h hK
    · split at h
      · rename_i he
        simp only [he]
        exact icallR_sound hX hIP hr h hK
      · cases h
    · cases h

theorem iopsR_sound {rec : Rec} (hr : Tells P (ICall P IP X) rec) : ∀ (l : List IOper) {T T' : Env} {H H' : IHeap}, iopsR P IP' rec l T H = some (T', H') → ∀ K : Env → IHeap → Prop, K T' H' → iwpOps P (ICall P IP X) l K T H
  | [], T, T', H, H', h, K, hK => by
    simp only [iopsR, Option.some.injEq, Prod.mk.injEq] at h
    obtain ⟨rfl, rfl⟩ := h
    exact hK
  | o :: os, T, T', H, H', h, K, hK => by
    simp only [iopsR] at h
    simp only [iwpOps]
    cases hw : wantedI T o.guard with
    | true =>
      rw [hw] at h
      simp only [] at h ⊢
      split at h
      · rename_i v H2 hv
        exact iopR_sound hX hIP hr hv (iopsR_sound hr os h K hK)
      · cases h
    | false => rw [hw] at h; exact iopsR_sound hr os h K hK

omit hX hIP in
theorem stillB_sound {T : Env} {H : IHeap} {o : IOper} (h : stillB P T H o = true) : stillI P T H o := by
  unfold stillB at h
  unfold stillI
  split at h
  · rename_i d hw hd
    rw [hw, hd]
    simp only []
    split at h
    · rename_i v hv; rw [hv, sameV_eq h]
    · cases h
  · rename_i hw hd
    rw [hw, hd]; exact h
  · rename_i hw
    rw [hw]; trivial

omit hX hIP in
theorem stillAll_of {T : Env} {H : IHeap} : ∀ {st : List IOper}, st.all (stillB P T H) = true → stillAll P T H st
  | [], _ => trivial
  | [o], h => stillB_sound (by simpa using h)
  | o :: p :: os, h => by
    simp only [List.all_cons, Bool.and_eq_true] at h
    exact ⟨stillB_sound h.1, stillAll_of (st := p :: os) (by simpa using h.2)⟩

theorem idrawR_sound {rec : Rec} (hr : Tells P (ICall P IP X) rec) : ∀ (l : List (IOper × List IOper)) {T T' : Env} {H H' : IHeap}, idrawR P IP' rec l T H = some (T', H') → ∀ K : Env → IHeap → Prop, K T' H' → iwpDraw P (ICall P IP X) l K T H
  | [], T, T', H, H', h, K, hK => by
    simp only [idrawR, Option.some.injEq, Prod.mk.injEq] at h
    obtain ⟨rfl, rfl⟩ := h
    exact hK
  | (o, st) :: os, T, T', H, H', h, K, hK => by
    simp only [idrawR] at h
    simp only [iwpDraw]
    cases hw : wantedI T o.guard with
    | true =>
      rw [hw] at h
      simp only [] at h ⊢
      split at h
      · rename_i v H2 hv
        split at h
        · rename_i hst
          refine iopR_sound hX hIP hr hv ?_
          have hs := stillAll_of hst
          have hrest := idrawR_sound hr os h K hK
          cases st with
          | nil => exact hrest
          | cons p r => exact ⟨hs, hrest⟩
        · cases h
      · cases h
    | false => rw [hw] at h; exact idrawR_sound hr os h K hK

theorem iexec_sound : ∀ n, Tells P (ICall P IP X) (iexec P IP' n)
  | 0 => fun c T H e T' H' h => by simp [iexec] at h
  | n + 1 => by
    have ih := iexec_sound n
    intro c T H e T' H' h Q hQ
    cases c with
    | skip =>
      simp only [iexec, Option.some.injEq, Prod.mk.injEq] at h
      obtain ⟨rfl, rfl, rfl⟩ := h; exact hQ
    | ops l =>
      simp only [iexec] at h
      split at h
      · rename_i T2 H2 h2
        simp only [Option.some.injEq, Prod.mk.injEq] at h
        obtain ⟨rfl, rfl, rfl⟩ := h
        exact iopsR_sound hX hIP ih l h2 _ hQ
      · cases h
    | draw l =>
      simp only [iexec] at h
      split at h
      · rename_i T2 H2 h2
        simp only [Option.some.injEq, Prod.mk.injEq] at h
        obtain ⟨rfl, rfl, rfl⟩ := h
        exact idrawR_sound hX hIP ih l h2 _ hQ
      · cases h
    | seq a b =>
      simp only [iexec] at h
      split at h
      · rename_i T2 H2 h2
        exact ih a T H _ _ _ h2 _ (ih b _ _ _ _ _ h Q hQ)
      · rename_i hne
        refine ih a T H _ _ _ h _ ?_
        cases e with
        | normal => exact absurd h (hne _ _)
        | _ => exact hQ
    | cond c a b =>
      simp only [iexec] at h
      simp only [iwp]
      split at h
      · rename_i he; rw [he]; exact ih a T H _ _ _ h Q hQ
      · rename_i he; rw [he]; exact ih b T H _ _ _ h Q hQ
      · cases h
    | block id a =>
      simp only [iexec] at h
      split at h
      · rename_i id' T2 H2 h2
        refine ih a T H _ _ _ h2 _ ?_
        simp only [blockI]
        split at h
        · rename_i hid
          simp only [Option.some.injEq, Prod.mk.injEq] at h
          obtain ⟨rfl, rfl, rfl⟩ := h
          rw [if_pos hid]; exact hQ
        · rename_i hid
          simp only [Option.some.injEq, Prod.mk.injEq] at h
          obtain ⟨rfl, rfl, rfl⟩ := h
          rw [if_neg hid]; exact hQ
      · rename_i hne
        refine ih a T H _ _ _ h _ ?_
        cases e with
        | exit id' => exact absurd h (hne _ _ _)
        | _ => exact hQ
    | loop a =>
      simp only [iexec] at h
      intro Y hY
      split at h
      · rename_i T2 H2 h2
        exact hY _ _ (ih a T H _ _ _ h2 _ (ih (.loop a) _ _ _ _ _ h Q hQ Y hY))
      · rename_i hne
        refine hY _ _ (ih a T H _ _ _ h _ ?_)
        cases e with
        | normal => exact absurd h (hne _ _)
        | _ => exact hQ
    | exit id =>
      simp only [iexec, Option.some.injEq, Prod.mk.injEq] at h
      obtain ⟨rfl, rfl, rfl⟩ := h; exact hQ
    | ret =>
      simp only [iexec, Option.some.injEq, Prod.mk.injEq] at h
      obtain ⟨rfl, rfl, rfl⟩ := h; exact hQ

end

/-- What a closed call yields, over nothing. -/
def closedB (P : Program) (IP : FuncId → Option IFunc) (n : Nat) (f : FuncId) (v : Value) : Bool := match icallR IP (iexec P IP n) f [] emptyH with
  | some (u, _) => sameC u v
  | none => false

/-- A call without arguments that is known to yield something. -/
def closedX (f : FuncId) (v : Value) : CallT := fun g args H K => g = f ∧ args = [] ∧ K v H
theorem closedX_mono (f : FuncId) (v : Value) : LeC (closedX f v) (closedX f v) := fun _ _ _ _ _ hK h => ⟨h.1, h.2.1, hK _ _ h.2.2⟩

theorem closedX_sim {P : Program} (hm : P.follows .mixedOrders = true) {IP : FuncId → Option IFunc} (hIP : ∀ f g, IP f = some g → compFunc2 P f = some g) {n : Nat} {f : FuncId} {v : Value} (hv : scal1 v = true) (h : closedB P IP n f v = true) : CSim P (closedX f v) := by
  have hcall : ICall P (compFunc2 P) noX f [] emptyH (fun r _ => r = v) := by
    unfold closedB at h
    split at h
    · rename_i u H' hu
      exact icallR_sound noX_mono hIP (iexec_sound noX_mono hIP n) hu (sameC_eq h)
    · cases h
  have hsim := sim_call2 hm (IP := compFunc2 P) (fun _ _ h => h) noX_sim noX_mono
  rintro g args H K ⟨rfl, rfl, hK⟩
  have fin : ∀ R w (args' : Array Value), Sim R H w → VRs R [] args'.toList → args' = #[] ∧ ∀ e w', callPost (fun r _ => r = v) emptyR emptyH w e w' → callPost K R H w e w' := by
    intro R w args' hS hA
    refine ⟨by cases args' with | mk l => cases hA; rfl, fun e w' he => ?_⟩
    obtain ⟨r, r', R2, H2, rfl, rfl, hvr, _, hext⟩ := he
    have hr : r' = r := hvr.scal1_eq hv
    subst hr
    have hold : ∀ k, k < w.heap.size → w'.heap[k]? = w.heap[k]? := fun k hk => hext.frame k hk fun b hb => hb.elim
    refine ⟨r', r', R, H, rfl, hK, VR.of_scal1 R hv, ⟨hS.lt, fun b hb => ?_, hS.inj, hS.wf⟩, ⟨R.le_refl, Nat.le_refl _, fun _ h => .inl h, fun _ _ _ => rfl, fun _ _ h _ => h, fun k hk _ => hold k hk, fun b hb hl => .inr ⟨b, hb, hl, rfl⟩, hext.size, hext.os, hext.tape, hext.output⟩⟩
    have ho := hS.obj b hb
    cases hg : H.get b with
    | none => rw [hg] at ho; exact ho.elim
    | some o =>
      by_cases hd : o = .dead
      · subst hd; trivial
      · rw [← hg]
        have hl : live H b := by unfold live; rw [hg]; cases o <;> first | trivial | exact absurd rfl hd
        refine ho.move R.le_refl hb fun y hy => ?_
        rw [hold _ (hS.blk_lt hb hl)]; exact hy
  rcases hsim g [] emptyH _ hcall with ⟨h1, h2⟩ | ⟨h1, h2⟩
  · refine .inl ⟨h1, fun R w args' hS hA => ?_⟩
    obtain ⟨rfl, hf⟩ := fin R w args' hS hA
    exact (h2 emptyR w #[] (laid_empty w).sim .nil).mono hf
  · refine .inr ⟨h1, fun R w args' hS hA => ?_⟩
    obtain ⟨rfl, hf⟩ := fin R w args' hS hA
    obtain ⟨r', w', h3, h4⟩ := h2 emptyR w #[] (laid_empty w).sim .nil
    exact ⟨r', w', h3, hf _ _ h4⟩

end Go.Proofs.YtndndcdblfejnaaGreatRI
