/- The code with plain operations; laws of calls and loops; a machine for closed code. -/
import Derived.Test.YtpklgklmjhblpaaIdealT
namespace Go.Proofs.YtpklgklmjhblpaaI
set_option linter.unusedSimpArgs false
set_option linter.unusedVariables false
open Go

section
variable {P : Program}

theorem refOp_sound {T : Env} {H : IHeap} {io : IOp} {v : Value} (h : ird P T H (refOp P io) = some v) : ird P T H io = some v := by
  unfold refOp at h
  split at h
  · split at h
    · exact bin_sound h
    · exact bin_sound h
    · rename_i hu
      split at h
      · exact bool_sound (neg := false) hu h
      · exact bool_sound (neg := true) hu h
      · exact h
    · rename_i fs hu
      split at h
      · rename_i k sh hk hg; exact eqv_sound (neg := false) hu hk hg (by simp) h
      · rename_i k sh hk hg; exact eqv_sound (neg := true) hu hk hg (by simp) h
      · exact h
    · exact h
  · exact un_sound h
  · split at h
    · rename_i hs hd; exact conv_sound hs hd h
    · exact h
  · split at h
    · rename_i ha hy
      split at h
      · rename_i hu; exact strLen_sound hu ha hy h
      · exact h
    · rename_i ha; exact mxn_sound (mx := true) ha h
    · rename_i ha; exact mxn_sound (mx := false) ha h
    · exact h
  · split at h
    · rename_i hu; exact strIdx_sound hu h
    · exact h
  · split at h
    · rename_i hu; exact strSl_sound hu h
    · exact h
  · simp [ird] at h
  · exact h

theorem refOp_kind (io : IOp) : (refOp P io).kind = io.kind ∧ (io.kind ≠ .rd → refOp P io = io) := by
  unfold refOp
  split <;> (repeat' split) <;> exact ⟨rfl, fun h => by first | rfl | exact absurd rfl h⟩

/-- A turn of operations that keeps what they do. -/
structure Turn (P : Program) (φ : IOp → IOp) : Prop where
  rd : ∀ T H io v, ird P T H (φ io) = some v → ird P T H io = some v
  kind : ∀ io, (φ io).kind = io.kind
  fix : ∀ io, io.kind ≠ .rd → φ io = io

theorem refTurn : Turn P (refOp P) := ⟨fun _ _ _ _ h => refOp_sound h, fun io => (refOp_kind io).1, fun io => (refOp_kind io).2⟩
theorem idTurn : Turn P id := ⟨fun _ _ _ _ h => h, fun _ => rfl, fun _ _ => rfl⟩

def mapOper (φ : IOp → IOp) (o : IOper) : IOper := { o with op := φ o.op }
def mapI (φ : IOp → IOp) : ICode → ICode
  | .ops l => .ops (l.map (mapOper φ))
  | .draw l => .draw (l.map fun x => (mapOper φ x.1, x.2.map (mapOper φ)))
  | .seq a b => .seq (mapI φ a) (mapI φ b)
  | .cond c a b => .cond c (mapI φ a) (mapI φ b)
  | .block id a => .block id (mapI φ a)
  | .loop a => .loop (mapI φ a)
  | c => c

theorem mapOper_id : mapOper id = id := rfl
theorem mapI_id : ∀ c, mapI id c = c
  | .skip => rfl
  | .ops l => by simp [mapI, mapOper_id]
  | .draw l => by simp [mapI, mapOper_id]
  | .seq a b => by simp [mapI, mapI_id a, mapI_id b]
  | .cond c a b => by simp [mapI, mapI_id a, mapI_id b]
  | .block id a => by simp [mapI, mapI_id a]
  | .loop a => by simp [mapI, mapI_id a]
  | .exit _ => rfl
  | .ret => rfl

/-- What one says of calls another one says, of more. -/
def LeC (C C' : CallT) : Prop := ∀ f a H K K', (∀ v H', K v H' → K' v H') → C f a H K → C' f a H K'

variable {C C' : CallT} {φ : IOp → IOp}

theorem iop_turn (hφ : Turn P φ) (hC : LeC C C') {T : Env} {H : IHeap} {o : IOp} {K K' : Value → IHeap → Prop} (hK : ∀ v H', K v H' → K' v H') (h : iop P C T H (φ o) K) : iop P C' T H o K' := by
  unfold iop at h ⊢
  rw [hφ.kind] at h
  cases hk : o.kind with
  | rd =>
    rw [hk] at h
    obtain ⟨v, h1, h2⟩ := h
    exact ⟨v, hφ.rd _ _ _ _ h1, hK _ _ h2⟩
  | al =>
    rw [hk, hφ.fix o (by rw [hk]; simp)] at h
    obtain ⟨r, h1, h2⟩ := h
    exact ⟨r, h1, hK _ _ h2⟩
  | ac =>
    rw [hk, hφ.fix o (by rw [hk]; simp)] at h
    obtain ⟨r, h1, h2⟩ := h
    exact ⟨r, h1, hK _ _ h2⟩
  | ca =>
    rw [hk, hφ.fix o (by rw [hk]; simp)] at h
    simp only [] at h ⊢
    unfold icall at h ⊢
    split at h
    · exact hC _ _ _ _ _ hK h
    · split at h
      · exact hC _ _ _ _ _ hK h
      · exact h.elim
    · exact h.elim

theorem ops_turn (hφ : Turn P φ) (hC : LeC C C') : ∀ (l : List IOper) {K K' : Env → IHeap → Prop} {T : Env} {H : IHeap}, (∀ T H, K T H → K' T H) → iwpOps P C (l.map (mapOper φ)) K T H → iwpOps P C' l K' T H
  | [], K, K', T, H, hK, h => hK _ _ h
  | o :: os, K, K', T, H, hK, h => by
    simp only [List.map_cons, iwpOps, mapOper] at h ⊢
    cases hw : wantedI T o.guard with
    | true =>
      rw [hw] at h
      exact iop_turn hφ hC (fun v H' k => ops_turn hφ hC os hK k) h
    | false => rw [hw] at h; exact ops_turn hφ hC os hK h

theorem still_turn (hφ : Turn P φ) {T : Env} {H : IHeap} {o : IOper} (h : stillI P T H (mapOper φ o)) : stillI P T H o := by
  unfold stillI at h ⊢
  simp only [mapOper] at h
  split at h
  · rename_i d hg hd
    exact hφ.rd _ _ _ _ h
  · rename_i hg hd
    obtain ⟨v, hv⟩ := Option.isSome_iff_exists.1 h
    rw [hφ.rd _ _ _ _ hv]; rfl
  · trivial

theorem stillAll_turn (hφ : Turn P φ) {T : Env} {H : IHeap} : ∀ (l : List IOper), stillAll P T H (l.map (mapOper φ)) → stillAll P T H l
  | [], _ => trivial
  | [o], h => still_turn hφ h
  | o :: p :: os, h => ⟨still_turn hφ h.1, stillAll_turn hφ (p :: os) h.2⟩

theorem draw_turn (hφ : Turn P φ) (hC : LeC C C') : ∀ (l : List (IOper × List IOper)) {K K' : Env → IHeap → Prop} {T : Env} {H : IHeap}, (∀ T H, K T H → K' T H) →
    iwpDraw P C (l.map fun x => (mapOper φ x.1, x.2.map (mapOper φ))) K T H → iwpDraw P C' l K' T H
  | [], K, K', T, H, hK, h => hK _ _ h
  | (o, st) :: os, K, K', T, H, hK, h => by
    simp only [List.map_cons, iwpDraw, mapOper] at h ⊢
    cases hw : wantedI T o.guard with
    | true =>
      rw [hw] at h
      cases st with
      | nil => exact iop_turn hφ hC (fun v H' k => draw_turn hφ hC os hK k) h
      | cons p r => exact iop_turn hφ hC (fun v H' k => ⟨stillAll_turn hφ (p :: r) k.1, draw_turn hφ hC os hK k.2⟩) h
    | false => rw [hw] at h; exact draw_turn hφ hC os hK h

theorem iwp_turn (hφ : Turn P φ) (hC : LeC C C') : ∀ (c : ICode) {Q Q' : Exit → Env → IHeap → Prop} {T : Env} {H : IHeap}, (∀ e T H, Q e T H → Q' e T H) → iwp P C (mapI φ c) Q T H → iwp P C' c Q' T H
  | .skip, Q, Q', T, H, hQ, h => hQ _ _ _ h
  | .ops l, Q, Q', T, H, hQ, h => ops_turn hφ hC l (hQ _) h
  | .draw l, Q, Q', T, H, hQ, h => draw_turn hφ hC l (hQ _) h
  | .seq a b, Q, Q', T, H, hQ, h => iwp_turn hφ hC a (fun e T H k => by
      cases e with
      | normal => exact iwp_turn hφ hC b hQ k
      | _ => exact hQ _ _ _ k) h
  | .cond c a b, Q, Q', T, H, hQ, h => by
    simp only [mapI, iwp] at h ⊢
    split at h
    · exact iwp_turn hφ hC a hQ h
    · exact iwp_turn hφ hC b hQ h
    · exact h.elim
  | .block id a, Q, Q', T, H, hQ, h => iwp_turn hφ hC a (fun e T H k => by
      cases e with
      | exit id' =>
        simp only [blockI] at k ⊢
        split at k
        · rename_i he; rw [if_pos he]; exact hQ _ _ _ k
        · rename_i he; rw [if_neg he]; exact hQ _ _ _ k
      | _ => exact hQ _ _ _ k) h
  | .loop a, Q, Q', T, H, hQ, h => by
    intro X hX
    refine h X fun T H hb => hX T H (iwp_turn hφ hC a (fun e T H k => ?_) hb)
    cases e with
    | normal => exact k
    | _ => exact hQ _ _ _ k
  | .exit id, Q, Q', T, H, hQ, h => hQ _ _ _ h
  | .ret, Q, Q', T, H, hQ, h => hQ _ _ _ h

theorem iwp_mono (hC : LeC C C') (c : ICode) {Q Q' : Exit → Env → IHeap → Prop} {T : Env} {H : IHeap} (hQ : ∀ e T H, Q e T H → Q' e T H) (h : iwp P C c Q T H) : iwp P C' c Q' T H :=
  iwp_turn idTurn hC c hQ (by rw [mapI_id]; exact h)

theorem ibody_turn (hφ : Turn P φ) (hC : LeC C C') {g : IFunc} {args : List Value} {H : IHeap} {K K' : Value → IHeap → Prop} (hK : ∀ v H', K v H' → K' v H') (h : ibody P C { g with body := mapI φ g.body } args H K) : ibody P C' g args H K' := by
  refine ⟨h.1, iwp_turn hφ hC g.body (fun e T H k => ?_) h.2⟩
  cases e with
  | normal => obtain ⟨r, h1, h2⟩ := k; exact ⟨r, h1, hK _ _ h2⟩
  | ret => obtain ⟨r, h1, h2⟩ := k; exact ⟨r, h1, hK _ _ h2⟩
  | _ => exact k.elim

theorem ibody_mono (hC : LeC C C') {g : IFunc} {args : List Value} {H : IHeap} {K K' : Value → IHeap → Prop} (hK : ∀ v H', K v H' → K' v H') (h : ibody P C g args H K) : ibody P C' g args H K' :=
  ibody_turn idTurn hC hK (by rw [mapI_id]; exact h)

/-! ### Calls -/

variable {IP : FuncId → Option IFunc} {X : CallT}

/-- What holds of all more. -/
def inner (Y : CallT) : CallT := fun f a H K => ∀ K', (∀ v H', K v H' → K' v H') → Y f a H K'
theorem inner_le (Y : CallT) : LeC (inner Y) Y := fun _ _ _ _ K' hK h => h K' hK
theorem inner_mono (Y : CallT) : LeC (inner Y) (inner Y) := fun _ _ _ _ _ hK h K'' hK' => h K'' fun v H' k => hK' v H' (hK v H' k)

theorem inner_closed (hX : LeC X X) {Y : CallT} (hY : ∀ f args H K, (X f args H K ∨ ∃ g, IP f = some g ∧ ibody P Y g args H K) → Y f args H K) :
    ∀ f args H K, (X f args H K ∨ ∃ g, IP f = some g ∧ ibody P (inner Y) g args H K) → inner Y f args H K := by
  intro f args H K h K' hK
  rcases h with h | ⟨g, hg, hb⟩
  · exact hY _ _ _ _ (.inl (hX _ _ _ _ _ hK h))
  · exact hY _ _ _ _ (.inr ⟨g, hg, ibody_mono (inner_le Y) hK hb⟩)

theorem ICall.mono (hX : LeC X X) : LeC (ICall P IP X) (ICall P IP X) := by
  intro f a H K K' hK h Y hY
  exact h (inner Y) (inner_closed hX hY) K' hK

theorem ICall.fold (hX : LeC X X) {f : FuncId} {g : IFunc} {args : List Value} {H : IHeap} {K : Value → IHeap → Prop} (hg : IP f = some g) (h : ibody P (ICall P IP X) g args H K) : ICall P IP X f args H K := by
  intro Y hY
  have hle : LeC (ICall P IP X) Y := fun f a H K K' hK h => (ICall.mono hX f a H K K' hK h) Y hY
  exact hY _ _ _ _ (.inr ⟨g, hg, ibody_mono hle (fun _ _ k => k) h⟩)

theorem ICall.ext {f : FuncId} {args : List Value} {H : IHeap} {K : Value → IHeap → Prop} (h : X f args H K) : ICall P IP X f args H K := fun _ hY => hY _ _ _ _ (.inl h)

/-- Nothing is known besides. -/
def noX : CallT := fun _ _ _ _ => False
theorem noX_mono : LeC noX noX := fun _ _ _ _ _ _ h => h
theorem noX_sim : CSim P noX := fun _ _ _ _ h => h.elim

/-- The functions' texts, with plain operations. -/
def refF (P : Program) (g : IFunc) : IFunc := { g with body := mapI (refOp P) g.body }
def compFunc2 (P : Program) (f : FuncId) : Option IFunc := (compFunc P f).map (refF P)

theorem ICall.ref (hX : LeC X X) {IP' : FuncId → Option IFunc} (hIP : ∀ f g, IP' f = some g → ∃ g0, IP f = some g0 ∧ g = refF P g0) : LeC (ICall P IP' X) (ICall P IP X) := by
  intro f a H K K' hK h
  refine ICall.mono hX f a H K K' hK (h (ICall P IP X) ?_)
  intro f a H K hh
  rcases hh with hh | ⟨g, hg, hb⟩
  · exact ICall.ext hh
  · obtain ⟨g0, h1, rfl⟩ := hIP f g hg
    exact ICall.fold hX h1 (ibody_turn refTurn (ICall.mono hX) (fun _ _ k => k) hb)

theorem sim_call2 (hm : P.follows .mixedOrders = true) (hIP : ∀ f g, IP f = some g → compFunc2 P f = some g) (hX : CSim P X) (hXm : LeC X X) : CSim P (ICall P IP X) := by
  have h1 := sim_call hm (IP := fun f => if (IP f).isSome then compFunc P f else none) (X := X) (fun f g h => by
    split at h
    · exact h
    · cases h) hX
  intro f args H K h
  refine h1 f args H K (ICall.ref hXm (IP := fun f => if (IP f).isSome then compFunc P f else none) (fun f g hg => ?_) f args H K K (fun _ _ k => k) h)
  have := hIP f g hg
  unfold compFunc2 at this
  simp only [Option.map_eq_some_iff] at this
  obtain ⟨g0, h2, h3⟩ := this
  exact ⟨g0, by simp [hg, h2], h3.symm⟩

/-! ### Loops -/

theorem loop_inv (hC : LeC C C) {a : ICode} {Q : Exit → Env → IHeap → Prop} (I : Env → IHeap → Prop) (μ : Env → IHeap → Nat) {T : Env} {H : IHeap} (h0 : I T H)
    (round : ∀ T H, I T H → iwp P C a (thenI (fun T' H' => I T' H' ∧ μ T' H' < μ T H) Q) T H) : iwp P C (.loop a) Q T H := by
  intro X hX
  have key : ∀ n T H, μ T H = n → I T H → X T H := by
    intro n
    induction n using Nat.strongRecOn with
    | _ n ih =>
      intro T H hn hI
      refine hX T H (iwp_mono hC a (fun e T' H' k => ?_) (round T H hI))
      cases e with
      | normal => exact ih _ (hn ▸ k.2) _ _ rfl k.1
      | _ => exact k
  exact key _ T H rfl h0

/-- A loop by what is left: the state that each n stands for. -/
theorem loop_nat (hC : LeC C C) {a : ICode} {Q : Exit → Env → IHeap → Prop} (I : Nat → Env → IHeap → Prop) (n : Nat) {T : Env} {H : IHeap} (h0 : I n T H)
    (round : ∀ n T H, I n T H → iwp P C a (thenI (fun T' H' => ∃ m, m < n ∧ I m T' H') Q) T H) : iwp P C (.loop a) Q T H := by
  intro X hX
  have key : ∀ n T H, I n T H → X T H := by
    intro n
    induction n using Nat.strongRecOn with
    | _ n ih =>
      intro T H hI
      refine hX T H (iwp_mono hC a (fun e T' H' k => ?_) (round n T H hI))
      cases e with
      | normal => obtain ⟨m, h1, h2⟩ := k; exact ih m h1 _ _ h2
      | _ => exact k
  exact key n T H h0

end
end Go.Proofs.YtpklgklmjhblpaaI
