/- The code with plain operations; laws of calls and loops; a machine for closed code. / A law's arguments: what is read of them, in the ideal heap. / Walking through ideal code: contexts, heaps that grow, and the words for simp. / Plain laws that walks need: whole numbers, slices' rows. -/
import Derived.Test.YtndndcdblfejnaaGreatRIdealT
import Derived.WalkKit
import Derived.ProofKit
import Derived.OpenShut
import Derived.ShutString
import Derived.ChangeOld
import Derived.Below
import Derived.Carry
import Derived.ChangeCalls
import Derived.SizedLaws
namespace Go.Proofs.YtndndcdblfejnaaGreatRI
set_option linter.unusedSimpArgs false
set_option linter.unusedVariables false
open Go

section
variable {P : Program}

theorem refOp_sound {T : Env} {H : IHeap} {io : IOp} {v : Value} (h : ird P T H (refOp P io) = some v) : ird P T H io = some v := by
  unfold refOp at h
  split at h
  · split at h
    · exact bin_sound h
    · exact bin_sound h
    · rename_i hu
      split at h
      · exact bool_sound (neg := false) hu h
      · exact bool_sound (neg := true) hu h
      · exact h
    · rename_i fs hu
      split at h
      · rename_i k sh hk hg; exact eqv_sound (neg := false) hu hk hg (by simp) h
      · rename_i k sh hk hg; exact eqv_sound (neg := true) hu hk hg (by simp) h
      · exact h
    · exact h
  · exact un_sound h
  · split at h
    · rename_i hs hd; exact conv_sound hs hd h
    · exact h
  · split at h
    · rename_i ha hy
      split at h
      · rename_i hu; exact strLen_sound hu ha hy h
      · exact h
    · rename_i ha; exact mxn_sound (mx := true) ha h
    · rename_i ha; exact mxn_sound (mx := false) ha h
    · exact h
  · split at h
    · rename_i hu; exact strIdx_sound hu h
    · exact h
  · split at h
    · rename_i hu; exact strSl_sound hu h
    · exact h
  · simp [ird] at h
  · exact h

theorem refOp_kind (io : IOp) : (refOp P io).kind = io.kind ∧ (io.kind ≠ .rd → refOp P io = io) := by
  unfold refOp
  split <;> (repeat' split) <;> exact ⟨rfl, fun h => by first | rfl | exact absurd rfl h⟩

/-- A turn of operations that keeps what they do. -/
structure Turn (P : Program) (φ : IOp → IOp) : Prop where
  rd : ∀ T H io v, ird P T H (φ io) = some v → ird P T H io = some v
  kind : ∀ io, (φ io).kind = io.kind
  fix : ∀ io, io.kind ≠ .rd → φ io = io

theorem refTurn : Turn P (refOp P) := ⟨fun _ _ _ _ h => refOp_sound h, fun io => (refOp_kind io).1, fun io => (refOp_kind io).2⟩
theorem idTurn : Turn P id := ⟨fun _ _ _ _ h => h, fun _ => rfl, fun _ _ => rfl⟩

def mapOper (φ : IOp → IOp) (o : IOper) : IOper := { o with op := φ o.op }
def mapI (φ : IOp → IOp) : ICode → ICode
  | .ops l => .ops (l.map (mapOper φ))
  | .draw l => .draw (l.map fun x => (mapOper φ x.1, x.2.map (mapOper φ)))
  | .seq a b => .seq (mapI φ a) (mapI φ b)
  | .cond c a b => .cond c (mapI φ a) (mapI φ b)
  | .block id a => .block id (mapI φ a)
  | .loop a => .loop (mapI φ a)
  | c => c

theorem mapOper_id : mapOper id = id := rfl
theorem mapI_id : ∀ c, mapI id c = c
  | .skip => rfl
  | .ops l => by simp [mapI, mapOper_id]
  | .draw l => by simp [mapI, mapOper_id]
  | .seq a b => by simp [mapI, mapI_id a, mapI_id b]
  | .cond c a b => by simp [mapI, mapI_id a, mapI_id b]
  | .block id a => by simp [mapI, mapI_id a]
  | .loop a => by simp [mapI, mapI_id a]
  | .exit _ => rfl
  | .ret => rfl

/-- What one says of calls another one says, of more. -/
def LeC (C C' : CallT) : Prop := ∀ f a H K K', (∀ v H', K v H' → K' v H') → C f a H K → C' f a H K'

variable {C C' : CallT} {φ : IOp → IOp}

theorem rangeI_mono {H : IHeap} {K K' : Value → IHeap → Prop} (hK : ∀ v H', K v H' → K' v H') {x : Value} (h : rangeI H K x) : rangeI H K' x := by
  unfold rangeI at h
  split at h
  · exact hK _ _ h
  · split at h
    · rename_i hg; simp only [rangeI, hg]; exact hK _ _ h
    · exact h.elim
  · exact h.elim
theorem nextI2_mono {H : IHeap} {K K' : Value → IHeap → Prop} (hK : ∀ v H', K v H' → K' v H') {x : Value} (h : nextI2 H K x) : nextI2 H K' x := by
  unfold nextI2 at h
  split at h
  · split at h
    · rename_i hg; simp only [nextI2, hg]; exact hK _ _ h
    · rename_i hg
      split at h
      · rename_i hg2; simp only [nextI2, hg, hg2]; exact ⟨h.1, fun k => hK _ _ (h.2.1 k), fun e he hn => hK _ _ (h.2.2 e he hn)⟩
      · exact h.elim
    · exact h.elim
  · exact h.elim

theorem entryI_mono {H : IHeap} {K K' : Value → IHeap → Prop} (hK : ∀ v H', K v H' → K' v H') {x : Value} (h : entryI H K x) : entryI H K' x := by
  unfold entryI at h
  split at h
  · split at h
    · rename_i hg
      split at h
      · rename_i hg2
        simp only [entryI, hg, hg2]
        obtain ⟨h1, pre, s, h2, e, h3, h4⟩ := h
        exact ⟨h1, pre, s, h2, e, h3, hK _ _ h4⟩
      · exact h.elim
    · exact h.elim
  · exact h.elim

theorem iop_turn (hφ : Turn P φ) (hC : LeC C C') {T : Env} {H : IHeap} {o : IOp} {K K' : Value → IHeap → Prop} (hK : ∀ v H', K v H' → K' v H') (h : iop P C T H (φ o) K) : iop P C' T H o K' := by
  unfold iop at h ⊢
  rw [hφ.kind] at h
  cases hk : o.kind with
  | rd =>
    rw [hk] at h
    obtain ⟨v, h1, h2⟩ := h
    exact ⟨v, hφ.rd _ _ _ _ h1, hK _ _ h2⟩
  | al =>
    rw [hk, hφ.fix o (by rw [hk]; simp)] at h
    obtain ⟨r, h1, h2⟩ := h
    exact ⟨r, h1, hK _ _ h2⟩
  | ac =>
    rw [hk, hφ.fix o (by rw [hk]; simp)] at h
    obtain ⟨r, h1, h2⟩ := h
    exact ⟨r, h1, hK _ _ h2⟩
  | ca =>
    rw [hk, hφ.fix o (by rw [hk]; simp)] at h
    simp only [] at h ⊢
    unfold icall at h ⊢
    split at h
    · exact hC _ _ _ _ _ hK h
    · split at h
      · exact hC _ _ _ _ _ hK h
      · exact h.elim
    · exact rangeI_mono hK h
    · exact nextI2_mono hK h
    · exact entryI_mono hK h
    · exact h.elim

theorem ops_turn (hφ : Turn P φ) (hC : LeC C C') : ∀ (l : List IOper) {K K' : Env → IHeap → Prop} {T : Env} {H : IHeap}, (∀ T H, K T H → K' T H) → iwpOps P C (l.map (mapOper φ)) K T H → iwpOps P C' l K' T H
  | [], K, K', T, H, hK, h => hK _ _ h
  | o :: os, K, K', T, H, hK, h => by
    simp only [List.map_cons, iwpOps, mapOper] at h ⊢
    cases hw : wantedI T o.guard with
    | true =>
      rw [hw] at h
      exact iop_turn hφ hC (fun v H' k => ops_turn hφ hC os hK k) h
    | false => rw [hw] at h; exact ops_turn hφ hC os hK h

theorem still_turn (hφ : Turn P φ) {T : Env} {H : IHeap} {o : IOper} (h : stillI P T H (mapOper φ o)) : stillI P T H o := by
  unfold stillI at h ⊢
  simp only [mapOper] at h
  split at h
  · rename_i d hg hd
    exact hφ.rd _ _ _ _ h
  · rename_i hg hd
    obtain ⟨v, hv⟩ := Option.isSome_iff_exists.1 h
    rw [hφ.rd _ _ _ _ hv]; rfl
  · trivial

theorem stillAll_turn (hφ : Turn P φ) {T : Env} {H : IHeap} : ∀ (l : List IOper), stillAll P T H (l.map (mapOper φ)) → stillAll P T H l
  | [], _ => trivial
  | [o], h => still_turn hφ h
  | o :: p :: os, h => ⟨still_turn hφ h.1, stillAll_turn hφ (p :: os) h.2⟩

theorem draw_turn (hφ : Turn P φ) (hC : LeC C C') : ∀ (l : List (IOper × List IOper)) {K K' : Env → IHeap → Prop} {T : Env} {H : IHeap}, (∀ T H, K T H → K' T H) →
    iwpDraw P C (l.map fun x => (mapOper φ x.1, x.2.map (mapOper φ))) K T H → iwpDraw P C' l K' T H
  | [], K, K', T, H, hK, h => hK _ _ h
  | (o, st) :: os, K, K', T, H, hK, h => by
    simp only [List.map_cons, iwpDraw, mapOper] at h ⊢
    cases hw : wantedI T o.guard with
    | true =>
      rw [hw] at h
      cases st with
      | nil => exact iop_turn hφ hC (fun v H' k => draw_turn hφ hC os hK k) h
      | cons p r => exact iop_turn hφ hC (fun v H' k => ⟨stillAll_turn hφ (p :: r) k.1, draw_turn hφ hC os hK k.2⟩) h
    | false => rw [hw] at h; exact draw_turn hφ hC os hK h

theorem iwp_turn (hφ : Turn P φ) (hC : LeC C C') : ∀ (c : ICode) {Q Q' : Exit → Env → IHeap → Prop} {T : Env} {H : IHeap}, (∀ e T H, Q e T H → Q' e T H) → iwp P C (mapI φ c) Q T H → iwp P C' c Q' T H
  | .skip, Q, Q', T, H, hQ, h => hQ _ _ _ h
  | .ops l, Q, Q', T, H, hQ, h => ops_turn hφ hC l (hQ _) h
  | .draw l, Q, Q', T, H, hQ, h => draw_turn hφ hC l (hQ _) h
  | .seq a b, Q, Q', T, H, hQ, h => iwp_turn hφ hC a (fun e T H k => by
      cases e with
      | normal => exact iwp_turn hφ hC b hQ k
      | _ => exact hQ _ _ _ k) h
  | .cond c a b, Q, Q', T, H, hQ, h => by
    simp only [mapI, iwp] at h ⊢
    split at h
    · exact iwp_turn hφ hC a hQ h
    · exact iwp_turn hφ hC b hQ h
    · exact h.elim
  | .block id a, Q, Q', T, H, hQ, h => iwp_turn hφ hC a (fun e T H k => by
      cases e with
      | exit id' =>
        simp only [blockI] at k ⊢
        split at k
        · rename_i he; rw [if_pos he]; exact hQ _ _ _ k
        · rename_i he; rw [if_neg he]; exact hQ _ _ _ k
      | _ => exact hQ _ _ _ k) h
  | .loop a, Q, Q', T, H, hQ, h => by
    intro X hX
    refine h X fun T H hb => hX T H (iwp_turn hφ hC a (fun e T H k => ?_) hb)
    cases e with
    | normal => exact k
    | _ => exact hQ _ _ _ k
  | .exit id, Q, Q', T, H, hQ, h => hQ _ _ _ h
  | .ret, Q, Q', T, H, hQ, h => hQ _ _ _ h

theorem iwp_mono (hC : LeC C C') (c : ICode) {Q Q' : Exit → Env → IHeap → Prop} {T : Env} {H : IHeap} (hQ : ∀ e T H, Q e T H → Q' e T H) (h : iwp P C c Q T H) : iwp P C' c Q' T H :=
  iwp_turn idTurn hC c hQ (by rw [mapI_id]; exact h)

theorem ibody_turn (hφ : Turn P φ) (hC : LeC C C') {g : IFunc} {args : List Value} {H : IHeap} {K K' : Value → IHeap → Prop} (hK : ∀ v H', K v H' → K' v H') (h : ibody P C { g with body := mapI φ g.body } args H K) : ibody P C' g args H K' := by
  refine ⟨h.1, iwp_turn hφ hC g.body (fun e T H k => ?_) h.2⟩
  cases e with
  | normal => obtain ⟨r, h1, h2⟩ := k; exact ⟨r, h1, hK _ _ h2⟩
  | ret => obtain ⟨r, h1, h2⟩ := k; exact ⟨r, h1, hK _ _ h2⟩
  | _ => exact k.elim

theorem ibody_mono (hC : LeC C C') {g : IFunc} {args : List Value} {H : IHeap} {K K' : Value → IHeap → Prop} (hK : ∀ v H', K v H' → K' v H') (h : ibody P C g args H K) : ibody P C' g args H K' :=
  ibody_turn idTurn hC hK (by rw [mapI_id]; exact h)

/-! ### Calls -/

variable {IP : FuncId → Option IFunc} {X : CallT}

/-- What holds of all more. -/
def inner (Y : CallT) : CallT := fun f a H K => ∀ K', (∀ v H', K v H' → K' v H') → Y f a H K'
theorem inner_le (Y : CallT) : LeC (inner Y) Y := fun _ _ _ _ K' hK h => h K' hK
theorem inner_mono (Y : CallT) : LeC (inner Y) (inner Y) := fun _ _ _ _ _ hK h K'' hK' => h K'' fun v H' k => hK' v H' (hK v H' k)

theorem inner_closed (hX : LeC X X) {Y : CallT} (hY : ∀ f args H K, (X f args H K ∨ ∃ g, IP f = some g ∧ ibody P Y g args H K) → Y f args H K) :
    ∀ f args H K, (X f args H K ∨ ∃ g, IP f = some g ∧ ibody P (inner Y) g args H K) → inner Y f args H K := by
  intro f args H K h K' hK
  rcases h with h | ⟨g, hg, hb⟩
  · exact hY _ _ _ _ (.inl (hX _ _ _ _ _ hK h))
  · exact hY _ _ _ _ (.inr ⟨g, hg, ibody_mono (inner_le Y) hK hb⟩)

theorem ICall.mono (hX : LeC X X) : LeC (ICall P IP X) (ICall P IP X) := by
  intro f a H K K' hK h Y hY
  exact h (inner Y) (inner_closed hX hY) K' hK

theorem ICall.fold (hX : LeC X X) {f : FuncId} {g : IFunc} {args : List Value} {H : IHeap} {K : Value → IHeap → Prop} (hg : IP f = some g) (h : ibody P (ICall P IP X) g args H K) : ICall P IP X f args H K := by
  intro Y hY
  have hle : LeC (ICall P IP X) Y := fun f a H K K' hK h => (ICall.mono hX f a H K K' hK h) Y hY
  exact hY _ _ _ _ (.inr ⟨g, hg, ibody_mono hle (fun _ _ k => k) h⟩)

theorem ICall.ext {f : FuncId} {args : List Value} {H : IHeap} {K : Value → IHeap → Prop} (h : X f args H K) : ICall P IP X f args H K := fun _ hY => hY _ _ _ _ (.inl h)

/-- Nothing is known besides. -/
def noX : CallT := fun _ _ _ _ => False
theorem noX_mono : LeC noX noX := fun _ _ _ _ _ _ h => h
theorem noX_sim : CSim P noX := fun _ _ _ _ h => h.elim

/-- The functions' texts, with plain operations. -/
def refF (P : Program) (g : IFunc) : IFunc := { g with body := mapI (refOp P) g.body }
def compFunc2 (P : Program) (f : FuncId) : Option IFunc := (compFunc P f).map (refF P)

theorem ICall.ref (hX : LeC X X) {IP' : FuncId → Option IFunc} (hIP : ∀ f g, IP' f = some g → ∃ g0, IP f = some g0 ∧ g = refF P g0) : LeC (ICall P IP' X) (ICall P IP X) := by
  intro f a H K K' hK h
  refine ICall.mono hX f a H K K' hK (h (ICall P IP X) ?_)
  intro f a H K hh
  rcases hh with hh | ⟨g, hg, hb⟩
  · exact ICall.ext hh
  · obtain ⟨g0, h1, rfl⟩ := hIP f g hg
    exact ICall.fold hX h1 (ibody_turn refTurn (ICall.mono hX) (fun _ _ k => k) hb)

theorem sim_call2 (hm : P.follows .mixedOrders = true) (hIP : ∀ f g, IP f = some g → compFunc2 P f = some g) (hX : CSim P X) (hXm : LeC X X) : CSim P (ICall P IP X) := by
  have h1 := sim_call hm (IP := fun f => if (IP f).isSome then compFunc P f else none) (X := X) (fun f g h => by
    split at h
    · exact h
    · cases h) hX
  intro f args H K h
  refine h1 f args H K (ICall.ref hXm (IP := fun f => if (IP f).isSome then compFunc P f else none) (fun f g hg => ?_) f args H K K (fun _ _ k => k) h)
  have := hIP f g hg
  unfold compFunc2 at this
  simp only [Option.map_eq_some_iff] at this
  obtain ⟨g0, h2, h3⟩ := this
  exact ⟨g0, by simp [hg, h2], h3.symm⟩

/-! ### Loops -/

theorem loop_inv (hC : LeC C C) {a : ICode} {Q : Exit → Env → IHeap → Prop} (I : Env → IHeap → Prop) (μ : Env → IHeap → Nat) {T : Env} {H : IHeap} (h0 : I T H)
    (round : ∀ T H, I T H → iwp P C a (thenI (fun T' H' => I T' H' ∧ μ T' H' < μ T H) Q) T H) : iwp P C (.loop a) Q T H := by
  intro X hX
  have key : ∀ n T H, μ T H = n → I T H → X T H := by
    intro n
    induction n using Nat.strongRecOn with
    | _ n ih =>
      intro T H hn hI
      refine hX T H (iwp_mono hC a (fun e T' H' k => ?_) (round T H hI))
      cases e with
      | normal => exact ih _ (hn ▸ k.2) _ _ rfl k.1
      | _ => exact k
  exact key _ T H rfl h0

/-- A loop by what is left: the state that each n stands for. -/
theorem loop_nat (hC : LeC C C) {a : ICode} {Q : Exit → Env → IHeap → Prop} (I : Nat → Env → IHeap → Prop) (n : Nat) {T : Env} {H : IHeap} (h0 : I n T H)
    (round : ∀ n T H, I n T H → iwp P C a (thenI (fun T' H' => ∃ m, m < n ∧ I m T' H') Q) T H) : iwp P C (.loop a) Q T H := by
  intro X hX
  have key : ∀ n T H, I n T H → X T H := by
    intro n
    induction n using Nat.strongRecOn with
    | _ n ih =>
      intro T H hI
      refine hX T H (iwp_mono hC a (fun e T' H' k => ?_) (round n T H hI))
      cases e with
      | normal => obtain ⟨m, h1, h2⟩ := k; exact ih m h1 _ _ h2
      | _ => exact k
  exact key n T H h0

end
end Go.Proofs.YtndndcdblfejnaaGreatRI
namespace Go.Proofs.YtndndcdblfejnaaGreatRI
set_option linter.unusedSimpArgs false
set_option linter.unusedVariables false
open Go

/-- What a cell shows. -/
inductive D where
  | b (x : Bool)
  | i (k : IntKind) (n : Int)
  | s (x : ByteArray)
  | nil
  | sl (len : Nat) (es : List (List D))

/-- A cell's shape. -/
inductive Sh where
  | b
  | i (k : IntKind)
  | s
  | sl (bytes size : Nat) (e : List Sh)

mutual
def okD : Sh → D → Prop
  | .b, .b _ => True
  | .i k, .i k' n => k' = k ∧ (Lit.int k n).wf = true
  | .s, .s x => x.size ≤ reachBytes
  | .sl _ _ _, .nil => True
  | .sl bytes size e, .sl len es => len ≤ es.length ∧ es.length * bytes ≤ reachBytes ∧ es.length ≤ maxLen ∧ ∀ d ∈ es, d.length = size ∧ okDs e d
  | _, _ => False
def okDs : List Sh → List D → Prop
  | [], [] => True
  | q :: ss, d :: ds => okD q d ∧ okDs ss ds
  | _, _ => False
end

/-- A value that shows something. -/
inductive Rep (H : IHeap) : Value → D → Prop
  | b (x) : Rep H (.bool x) (.b x)
  | i (k n) : Rep H (.int k n) (.i k n)
  | s (x) : Rep H (.string x) (.s x)
  | nil : Rep H (.slice none 0 0) .nil
  | z (id o) : Rep H (.slice (some ⟨id, o, none⟩) 0 0) (.sl 0 [])
  | sl (id len es vs) : es ≠ [] → es.length < UNK → H.get id = some (.cells vs true) → vs.length = es.flatten.length → (∀ (j : Nat) v d, vs[j]? = some v → es.flatten[j]? = some d → Rep H v d) →
      Rep H (.slice (some ⟨id, 0, none⟩) len es.length) (.sl len es)

def Reps (H : IHeap) (vs : List Value) (ds : List D) : Prop := vs.length = ds.length ∧ ∀ (j : Nat) v d, vs[j]? = some v → ds[j]? = some d → Rep H v d

theorem Rep.mono {H H' : IHeap} (hs : H.sub H') {v : Value} {d : D} (h : Rep H v d) : Rep H' v d := by
  induction h with
  | b x => exact .b x
  | i k n => exact .i k n
  | s x => exact .s x
  | nil => exact .nil
  | z id o => exact .z id o
  | sl id len es vs h1 h2 h3 h4 _ ih => exact .sl id len es vs h1 h2 (hs _ _ h3) h4 ih

theorem Reps.mono {H H' : IHeap} (hs : H.sub H') {vs : List Value} {ds : List D} (h : Reps H vs ds) : Reps H' vs ds := ⟨h.1, fun j v d h1 h2 => (h.2 j v d h1 h2).mono hs⟩
theorem Reps.nil (H : IHeap) : Reps H [] [] := ⟨rfl, by simp⟩
theorem Reps.one {H : IHeap} {v : Value} {d : D} (h : Rep H v d) : Reps H [v] [d] := ⟨rfl, fun j u e h1 h2 => by
  cases j with
  | zero => simp at h1 h2; subst h1; subst h2; exact h
  | succ j => simp at h1⟩
theorem Reps.append {H : IHeap} {vs us : List Value} {ds es : List D} (h : Reps H vs ds) (k : Reps H us es) : Reps H (vs ++ us) (ds ++ es) := by
  refine ⟨by simp [h.1, k.1], fun j v d h1 h2 => ?_⟩
  by_cases hj : j < vs.length
  · rw [List.getElem?_append_left hj] at h1
    rw [List.getElem?_append_left (by rw [← h.1]; exact hj)] at h2
    exact h.2 j v d h1 h2
  · rw [List.getElem?_append_right (by omega)] at h1
    rw [List.getElem?_append_right (by rw [← h.1]; omega), ← h.1] at h2
    exact k.2 _ v d h1 h2

theorem okDs_append : ∀ {a b : List Sh} {x y : List D}, okDs a x → okDs b y → okDs (a ++ b) (x ++ y)
  | [], _, [], _, _, h => h
  | [], _, _ :: _, _, h, _ => by simp [okDs] at h
  | _ :: _, _, [], _, h, _ => by simp [okDs] at h
  | _ :: a, b, d :: x, y, h, k => by
    simp only [okDs, List.cons_append] at h ⊢
    exact ⟨h.1, okDs_append h.2 k⟩

theorem okDs_length : ∀ {a : List Sh} {x : List D}, okDs a x → x.length = a.length
  | [], [], _ => rfl
  | [], _ :: _, h => by simp [okDs] at h
  | _ :: _, [], h => by simp [okDs] at h
  | _ :: _, _ :: _, h => by simp only [okDs] at h; simp [okDs_length h.2]

def shFs (P : Program) (K : TypeId → Option (List Sh)) : List Field → Nat → Option (List Sh)
  | [], _ => some []
  | f :: fs, off => match K f.type with
    | some r => if f.offset = off ∧ P.cellsOf f.type = r.length then (shFs P K fs (off + r.length)).map (r ++ ·) else none
    | none => none

/-- The shapes of a type's cells. -/
def shT (P : Program) : Nat → TypeId → Option (List Sh)
  | 0, _ => none
  | n + 1, t => match P.underlying t with
    | some .bool => some [.b]
    | some (.int k) => some [.i k]
    | some .string => some [.s]
    | some (.slice e) => match shT P n e with
      | some l => if P.cellsOf e = l.length ∧ 0 < l.length then some [.sl (P.bytesOf e) l.length l] else none
      | none => none
    | some (.struct fs) => match shFs P (shT P n) fs.toList 0 with
      | some l => if P.cellsOf t = l.length then some l else none
      | none => none
    | _ => none

/-- All that is laid is read alone. -/
structure Laid (R : Ren) (H : IHeap) (w : World) : Prop where
  sim : Sim R H w
  ro : ∀ b, ¬ liveRW H b

section
variable {w : World} {R : Ren} {H : IHeap}

theorem alloc_sub (hS : Sim R H w) (o : IObj) : H.sub (H.alloc o) := by
  intro b q hb
  have hlt : b < H.next := by
    rcases Nat.lt_or_ge b H.next with h | h
    · exact h
    · rw [hS.wf b h] at hb; cases hb
  rw [alloc_get_lt H o hlt]; exact hb

theorem Laid.add (h : Laid R H w) {blk base size len : Nat} {o : IObj} (ho : ObjRel (R.addAt H.next blk base size len) (some o) H.next w) (hro : ¬ liveRW (H.alloc o) H.next) : Laid (R.addAt H.next blk base size len) (H.alloc o) w := by
  have hnd : ¬ R.dom H.next := fun hd => Nat.lt_irrefl _ (h.sim.lt _ hd)
  have hle : R.le (R.addAt H.next blk base size len) := Ren.addAt_le hnd
  have hrw : ∀ b, ¬ liveRW (H.alloc o) b := by
    intro b hb
    by_cases hbn : b = H.next
    · subst hbn; exact hro hb
    · refine h.ro b ?_
      unfold liveRW at hb ⊢
      have : (H.alloc o).get b = H.get b := by show (if b = H.next then some o else H.get b) = _; rw [if_neg hbn]
      rw [this] at hb; exact hb
  refine ⟨⟨?_, ?_, fun b c _ _ _ _ hor => (hor.elim (hrw b) (hrw c)).elim, ?_⟩, hrw⟩
  · rintro b (hb | rfl)
    · exact Nat.lt_succ_of_lt (h.sim.lt b hb)
    · exact Nat.lt_succ_self _
  · rintro b hb
    by_cases hbn : b = H.next
    · subst hbn; rw [alloc_get]; exact ho
    · have hb' := hb.resolve_right hbn
      have : (H.alloc o).get b = H.get b := by show (if b = H.next then some o else H.get b) = _; rw [if_neg hbn]
      rw [this]
      exact (h.sim.obj b hb').move hle hb' fun _ hx => hx
  · intro b hb
    have hb' : H.next + 1 ≤ b := hb
    show (if b = H.next then some o else H.get b) = _
    rw [if_neg (by omega)]; exact h.sim.wf b (by omega)

end

/-- What has been laid of cells. -/
def Lays (w : World) (R : Ren) (H : IHeap) (cs : List Value) (P : List D → Prop) : Prop :=
  ∃ R' H' vs ds, R.le R' ∧ H.sub H' ∧ Laid R' H' w ∧ VRs R' vs cs ∧ Reps H' vs ds ∧ P ds

theorem IHeap.sub_trans {A B C : IHeap} (h : A.sub B) (k : B.sub C) : A.sub C := fun b o hb => k b o (h b o hb)

section
variable {Hd : Type} {enc : TypeId × Value → Hd} {P : Program} {w : World}

theorem weightsAll_mem {e : TypeId} : ∀ {l : List (DataW Hd)} {d : DataW Hd}, d ∈ l → ∀ x ∈ d.weights P e, x ∈ DataW.weightsAll P e l
  | [], _, h, _, _ => by simp at h
  | a :: l, d, h, x, hx => by
    simp only [DataW.weightsAll]
    rcases List.mem_cons.1 h with rfl | h
    · exact List.mem_append_left _ hx
    · exact List.mem_append_right _ (weightsAll_mem h x hx)

theorem lay_cells : ∀ (n : Nat) (t : TypeId) (cs : List Value) (x : DataW Hd × List MemPlace) (m : Nat) (sh : List Sh), DataW.trod enc P w 0 (fun _ => true) true n t cs = some x → shT P m t = some sh →
    (∀ y ∈ x.1.weights P t, y ≤ reachBytes) → ∀ R H, Laid R H w → Lays w R H cs (okDs sh) := by
  intro n
  induction n with
  | zero => intro t cs x m sh h; simp [DataW.trod] at h
  | succ n ih =>
    intro t cs x m sh h hsh hw R H hL
    cases m with
    | zero => simp [shT] at hsh
    | succ m =>
      simp only [shT] at hsh
      split at hsh
      · rename_i hu
        injection hsh with hsh; subst hsh
        obtain ⟨b, rfl, _⟩ := DataW.trod_bool hu h
        exact ⟨R, H, [.bool b], [.b b], R.le_refl, fun _ _ h => h, hL, .cons (.bool b) .nil, Reps.one (.b b), by simp [okDs, okD]⟩
      · rename_i k hu
        injection hsh with hsh; subst hsh
        obtain ⟨z, rfl, _, hz⟩ := DataW.trod_int hu h
        exact ⟨R, H, [.int k z], [.i k z], R.le_refl, fun _ _ h => h, hL, .cons (.int k z) .nil, Reps.one (.i k z), by simp [okDs, okD, hz]⟩
      · rename_i hu
        injection hsh with hsh; subst hsh
        obtain ⟨s, rfl, rfl, hs⟩ := DataW.trod_string hu h
        refine ⟨R, H, [.string s], [.s s], R.le_refl, fun _ _ h => h, hL, .cons (.string s) .nil, Reps.one (.s s), ?_⟩
        have := hw s.data.toList.length (by simp [DataW.weights])
        simp only [okDs, okD, and_true]
        simpa using this
      · -- a slice
        rename_i e hu
        split at hsh
        case h_2 => cases hsh
        rename_i l hl
        split at hsh
        case isFalse => cases hsh
        rename_i hcell
        injection hsh with hsh; subst hsh
        rcases DataW.trod_slice hu h with ⟨rfl, _⟩ | ⟨a, len, cap, elems, rest, n', hn, rfl, rfl, _, hlc, hcm, hel, hget, hsp, _⟩
        · exact ⟨R, H, [.slice none 0 0], [.nil], R.le_refl, fun _ _ h => h, hL, .cons .sliceNil .nil, Reps.one .nil, by simp [okDs, okD]⟩
        · injection hn with hn
          subst hn
          obtain ⟨hrl, hrest⟩ := hsp rfl
          have hwb : (elems.length + rest.length) * P.bytesOf e ≤ reachBytes := by
            refine hw _ ?_
            simp only [DataW.weights, hu, List.length_map]
            exact List.mem_cons_self ..
          by_cases hc0 : cap = 0
          · -- none
            subst hc0
            have hl0 : len = 0 := by omega
            subst hl0
            have hl2 := hL.add (blk := a.block) (base := 0) (size := 0) (len := 0) (o := .dead) trivial (by unfold liveRW; rw [alloc_get]; simp)
            refine ⟨_, _, [.slice (some ⟨H.next, 0, none⟩) 0 0], [.sl 0 []], Ren.addAt_le (fun hd => Nat.lt_irrefl _ (hL.sim.lt _ hd)), alloc_sub hL.sim _, hl2, .cons (.sliceZ _ _ _ (.inr rfl)) .nil, Reps.one (.z _ _), ?_⟩
            simp [okDs, okD]
          · have hone : ∀ i, i < cap → ∃ ci y, w.cells? 0 (a.add (i * P.cellsOf e)) (P.cellsOf e) = some ci ∧ DataW.trod enc P w 0 (fun _ => true) true n e ci = some y ∧ ∀ z ∈ y.1.weights P e, z ≤ reachBytes := by
              intro i hi
              by_cases hil : i < len
              · have h1 := hget i hil
                have h2 : elems[i]? = some elems[i] := by simp [hel, hil]
                rw [h2] at h1
                rw [Option.bind_eq_some_iff] at h1
                obtain ⟨ci, h3, h4⟩ := h1
                refine ⟨ci, _, h3, h4, fun z hz => hw z ?_⟩
                simp only [DataW.weights, hu]
                exact List.mem_cons_of_mem _ (List.mem_append_left _ (weightsAll_mem (List.mem_map.2 ⟨_, List.getElem_mem _, rfl⟩) z hz))
              · have h1 := hrest (i - len) (by omega)
                rw [show len + (i - len) = i by omega] at h1
                have h2 : rest[i - len]? = some (rest[i - len]'(by omega)) := by simp
                rw [h2] at h1
                rw [Option.bind_eq_some_iff] at h1
                obtain ⟨ci, h3, h4⟩ := h1
                refine ⟨ci, _, h3, h4, fun z hz => hw z ?_⟩
                simp only [DataW.weights, hu]
                exact List.mem_cons_of_mem _ (List.mem_append_right _ (weightsAll_mem (List.mem_map.2 ⟨_, List.getElem_mem _, rfl⟩) z hz))
            -- the block
            have hsz : 0 < P.cellsOf e := by omega
            obtain ⟨blk, off, spot⟩ := a
            have hc0' : ∃ c t fr, w.heap[blk]? = some (.cells c t fr) ∧ spot = none := by
              obtain ⟨ci, y, h1, _⟩ := hone 0 (by omega)
              obtain ⟨_, h2, h3⟩ := World.cells?_some h1
              have h4 := h3 0 hsz
              have h5 : ci[0]? = some (ci[0]'(by omega)) := by simp
              rw [h5] at h4
              simp only [Nat.zero_mul, Addr.add, if_true, World.cell?] at h4
              split at h4
              · rename_i c t fr hb
                refine ⟨c, t, fr, hb, ?_⟩
                cases spot with
                | none => rfl
                | some q => simp at h4
              · cases h4
            obtain ⟨c, t, fr, hblk, rfl⟩ := hc0'
            have hadd : ∀ p q : Nat, (Addr.add (Addr.add ⟨blk, off, none⟩ p) q) = ⟨blk, off + p + q, none⟩ := by
              intro p q
              unfold Addr.add
              by_cases hp : p = 0 <;> by_cases hq : q = 0 <;> simp [hp, hq]
            have hci : ∀ i ci, w.cells? 0 (Addr.add ⟨blk, off, none⟩ (i * P.cellsOf e)) (P.cellsOf e) = some ci → ci = ((c.toList.drop off).drop (i * P.cellsOf e)).take (P.cellsOf e) ∧ off + i * P.cellsOf e + P.cellsOf e ≤ c.size := by
              intro i ci h1
              obtain ⟨_, h2, h3⟩ := World.cells?_some h1
              have h4 : ∀ j, j < P.cellsOf e → c[off + i * P.cellsOf e + j]? = ci[j]? := by
                intro j hj
                rw [← h3 j hj, hadd]
                simp [World.cell?, hblk]
              constructor
              · apply List.ext_getElem?
                intro j
                by_cases hj : j < P.cellsOf e
                · rw [← h4 j hj, List.getElem?_take, if_pos hj, List.getElem?_drop, List.getElem?_drop]
                  simp [Nat.add_assoc]
                · rw [List.getElem?_eq_none (by omega), List.getElem?_eq_none (by simp; omega)]
              · have h5 := h4 (P.cellsOf e - 1) (by omega)
                have h6 : ci[P.cellsOf e - 1]? = some (ci[P.cellsOf e - 1]'(by omega)) := by simp
                rw [h6] at h5
                have := (Array.getElem?_eq_some_iff.1 h5).1
                omega
            have many : ∀ k, k ≤ cap → ∃ R' H' vs es, R.le R' ∧ H.sub H' ∧ Laid R' H' w ∧ VRs R' vs ((c.toList.drop off).take (k * P.cellsOf e)) ∧ Reps H' vs (List.flatten es) ∧ es.length = k ∧ ∀ d ∈ es, d.length = l.length ∧ okDs l d := by
              intro k
              induction k with
              | zero => intro _; exact ⟨R, H, [], [], R.le_refl, fun _ _ h => h, hL, by simp; exact .nil, Reps.nil H, rfl, by simp⟩
              | succ k ihk =>
                intro hk
                obtain ⟨R1, H1, vs, es, a1, a2, a3, a4, a5, a6, a7⟩ := ihk (by omega)
                obtain ⟨ci, y, h1, h2, h3⟩ := hone k (by omega)
                obtain ⟨R2, H2, us, ds, b1, b2, b3, b4, b5, b6⟩ := ih e ci y m l h2 hl h3 R1 H1 a3
                have hcc := (hci k ci h1).1
                refine ⟨R2, H2, vs ++ us, es ++ [ds], a1.trans b1, IHeap.sub_trans a2 b2, b3, ?_, ?_, by simp [a6], ?_⟩
                · rw [Nat.add_mul, Nat.one_mul, List.take_add, ← hcc]
                  exact VRs.append b4 (a4.mono b1)
                · simp only [List.flatten_append, List.flatten_cons, List.flatten_nil, List.append_nil]
                  exact (a5.mono b2).append b5
                · intro d hd
                  rcases List.mem_append.1 hd with hd | hd
                  · exact a7 d hd
                  · simp at hd; subst hd; exact ⟨okDs_length b6, b6⟩
            obtain ⟨R1, H1, vs, es, a1, a2, a3, a4, a5, a6, a7⟩ := many cap (Nat.le_refl _)
            have hend : off + cap * P.cellsOf e ≤ c.size := by
              obtain ⟨ci, y, h1, _⟩ := hone (cap - 1) (by omega)
              have := (hci _ ci h1).2
              have h2 : (cap - 1) * P.cellsOf e + P.cellsOf e = cap * P.cellsOf e := by
                rw [← Nat.succ_mul]; congr 1; omega
              omega
            have hvl : vs.length = cap * P.cellsOf e := by
              rw [a4.length]; simp; omega
            have hobj : ObjRel (R1.addAt H1.next blk off c.size (cap * P.cellsOf e)) (some (.cells vs true)) H1.next w := by
              have hnd : ¬ R1.dom H1.next := fun hd => Nat.lt_irrefl _ (a3.sim.lt _ hd)
              refine ⟨by simp [Ren.addAt, hvl], by simp [Ren.addAt, hvl]; omega, c, t, fr, by simpa [Ren.addAt] using hblk, by simp [Ren.addAt], ?_, by simp⟩
              have : (R1.addAt H1.next blk off c.size (cap * P.cellsOf e)).base H1.next = off := by simp [Ren.addAt]
              rw [this, hvl]
              exact a4.mono (Ren.addAt_le hnd)
            have hl2 := a3.add hobj (by unfold liveRW; rw [alloc_get]; simp)
            have hnd : ¬ R1.dom H1.next := fun hd => Nat.lt_irrefl _ (a3.sim.lt _ hd)
            have hunk : cap < UNK := by have : maxLen = 9223372036854775807 := rfl; unfold UNK; omega
            refine ⟨_, _, [.slice (some ⟨H1.next, 0, none⟩) len cap], [.sl len es], a1.trans (Ren.addAt_le hnd), IHeap.sub_trans a2 (alloc_sub a3.sim _), hl2, .cons ?_ .nil, Reps.one ?_, ?_⟩
            · have := VR.sliceEx (R := R1.addAt H1.next blk off c.size (cap * P.cellsOf e)) H1.next 0 len cap (.inr rfl) hunk
              simpa [Ren.addAt] using this
            · rw [← a6]
              have a5' := a5.mono (alloc_sub a3.sim (.cells vs true))
              refine .sl H1.next len es vs (by intro he; rw [he] at a6; simp at a6; omega) (by omega) (alloc_get _ _) a5'.1 a5'.2
            · simp only [okDs, okD, and_true]
              refine ⟨by omega, ?_, by omega, ?_⟩
              · rw [a6]
                have : elems.length + rest.length = cap := by omega
                rw [this] at hwb; exact hwb
              · intro d hd; exact a7 d hd
      · -- a struct
        rename_i fs hu
        split at hsh
        case h_2 => cases hsh
        rename_i l hl
        split at hsh
        case isFalse => cases hsh
        rename_i hcell
        injection hsh with hsh; subst hsh
        obtain ⟨xs, n', hn, rfl, hlen, hxl, hget⟩ := DataW.trod_struct hu h
        injection hn with hn
        subst hn
        have key : ∀ (fl : List Field) (off : Nat) (q : List Sh) (ys : List (DataW Hd × List MemPlace)), shFs P (shT P m) fl off = some q → ys.length = fl.length →
            (∀ (i : Nat) (f : Field), fl[i]? = some f → DataW.trod enc P w 0 (fun _ => true) true n f.type ((cs.drop f.offset).take (P.cellsOf f.type)) = ys[i]?) →
            (∀ z ∈ DataW.weightsEach P (fl.map (·.type)) (ys.map (·.1)), z ≤ reachBytes) → ∀ R H, Laid R H w → Lays w R H ((cs.drop off).take q.length) (okDs q) := by
          intro fl
          induction fl with
          | nil =>
            intro off q ys hq hyl _ _ R H hL
            simp only [shFs, Option.some.injEq] at hq
            subst hq
            exact ⟨R, H, [], [], R.le_refl, fun _ _ h => h, hL, by simp; exact .nil, Reps.nil H, by simp [okDs]⟩
          | cons f fl ihf =>
            intro off q ys hq hyl hg hww R H hL
            simp only [shFs] at hq
            split at hq
            case h_2 => cases hq
            rename_i r hr
            split at hq
            case isFalse => cases hq
            rename_i hcond
            simp only [Option.map_eq_some_iff] at hq
            obtain ⟨q', hq', rfl⟩ := hq
            cases ys with
            | nil => simp at hyl
            | cons y ys =>
              have h1 := hg 0 f (by simp)
              simp only [List.getElem?_cons_zero] at h1
              simp only [List.map_cons, DataW.weightsEach] at hww
              obtain ⟨R1, H1, vs, ds, a1, a2, a3, a4, a5, a6⟩ := ih f.type _ y m r h1 hr (fun z hz => hww z (List.mem_append_left _ hz)) R H hL
              obtain ⟨R2, H2, us, es, b1, b2, b3, b4, b5, b6⟩ := ihf (off + r.length) q' ys hq' (by simpa using hyl) (fun i g hi => by simpa using hg (i + 1) g (by simpa using hi)) (fun z hz => hww z (List.mem_append_right _ hz)) R1 H1 a3
              refine ⟨R2, H2, vs ++ us, ds ++ es, a1.trans b1, IHeap.sub_trans a2 b2, b3, ?_, (a5.mono b2).append b5, okDs_append a6 b6⟩
              rw [List.length_append, List.take_add, List.drop_drop]
              rw [hcond.1, hcond.2] at a4
              exact VRs.append b4 (a4.mono b1)
        have := key fs.toList 0 l xs hl (by simpa using hxl) (fun i f hi => hget i f (by simpa using hi)) (by
          intro z hz
          refine hw z ?_
          simp only [DataW.weights, hu]
          exact hz) R H hL
        rw [List.drop_zero, List.take_of_length_le (by omega)] at this
        exact this
      · cases hsh

/-! ### All arguments -/

def ArgRep (H : IHeap) (agg : Bool) (v : Value) (ds : List D) : Prop := match agg with
  | true => ∃ us, v = .agg us ∧ Reps H us.toList ds
  | false => Reps H [v] ds

def ArgsOk (H : IHeap) : List (Bool × List Sh) → List Value → List (List D) → Prop
  | [], [], [] => True
  | (a, sh) :: r, v :: vs, d :: dss => ArgRep H a v d ∧ okDs sh d ∧ ArgsOk H r vs dss
  | _, _, _ => False

theorem ArgRep.mono {H H' : IHeap} (hs : H.sub H') {a : Bool} {v : Value} {ds : List D} (h : ArgRep H a v ds) : ArgRep H' a v ds := by
  cases a with
  | true => obtain ⟨us, h1, h2⟩ := h; exact ⟨us, h1, h2.mono hs⟩
  | false => exact Reps.mono hs h

theorem ArgsOk.mono {H H' : IHeap} (hs : H.sub H') : ∀ {p : List (Bool × List Sh)} {vs : List Value} {dss : List (List D)}, ArgsOk H p vs dss → ArgsOk H' p vs dss
  | [], [], [], _ => trivial
  | (_, _) :: _, _ :: _, _ :: _, h => ⟨h.1.mono hs, h.2.1, ArgsOk.mono hs h.2.2⟩
  | [], _ :: _, _, h => h.elim
  | [], [], _ :: _, h => h.elim
  | _ :: _, [], _, h => h.elim
  | _ :: _, _ :: _, [], h => h.elim

def parsT (P : Program) : List TypeId → Option (List (Bool × List Sh))
  | [] => some []
  | t :: ts => match aggT P t, shT P 20 t, parsT P ts with
    | some a, some sh, some r => some ((a, sh) :: r)
    | _, _, _ => none

theorem lay_args {base : Nat} : ∀ (ts : List TypeId) (vs : List Value) (ds : List (DataW Hd)) (p : List MemPlace) (pars : List (Bool × List Sh)), DataW.TrodAll enc P w 0 (fun _ => true) true ts vs ds p → parsT P ts = some pars →
    (∀ (j : Nat) t v, ts[j]? = some t → vs[j]? = some v → Value.okWide P w .any base t v) → (∀ z ∈ DataW.weightsEach P ts ds, z ≤ reachBytes) → ∀ R H, Laid R H w →
    ∃ R' H' us dss, R.le R' ∧ H.sub H' ∧ Laid R' H' w ∧ VRs R' us vs ∧ ArgsOk H' pars us dss
  | [], vs, ds, p, pars, h, hp, _, _, R, H, hL => by
    obtain ⟨rfl, rfl, _⟩ := Go.ChangeShapes.trodAll_nil h
    simp only [parsT, Option.some.injEq] at hp
    subst hp
    exact ⟨R, H, [], [], R.le_refl, fun _ _ h => h, hL, .nil, trivial⟩
  | t :: ts, vs, ds, p, pars, h, hp, hv, hw, R, H, hL => by
    obtain ⟨v, vs, d, ds, a, b, rfl, rfl, rfl, h1, h2⟩ := Go.ChangeShapes.trodAll_cons h
    simp only [parsT] at hp
    split at hp
    case h_2 => cases hp
    rename_i ag sh r hag hsh hr
    injection hp with hp
    subst hp
    simp only [DataW.weightsEach] at hw
    obtain ⟨fuel, hf⟩ := h1
    obtain ⟨R1, H1, us, es, a1, a2, a3, a4, a5, a6⟩ := lay_cells fuel t _ _ 20 sh hf hsh (fun z hz => hw z (List.mem_append_left _ hz)) R H hL
    obtain ⟨R2, H2, vs', dss, b1, b2, b3, b4, b5⟩ := lay_args ts vs ds b r h2 hr (fun j t v hj hj' => hv (j + 1) t v (by simpa using hj) (by simpa using hj')) (fun z hz => hw z (List.mem_append_right _ hz)) R1 H1 a3
    have hok := hv 0 t v (by simp) (by simp)
    unfold Value.okWide at hok
    unfold aggT at hag
    have hcase : (ag = true ∧ ∃ cs, v = .agg cs) ∨ (ag = false ∧ v.cells.toList = [v]) := by
      have hone : v.cells.toList.length = 1 → (∀ cs, v ≠ .agg cs) → v.cells.toList = [v] := by
        intro _ hne
        cases v <;> first | rfl | exact absurd rfl (hne _)
      cases hu : P.underlying t with
      | none => rw [hu] at hag; simp at hag
      | some dsc =>
        rw [hu] at hag hok
        cases dsc <;> simp at hag <;> subst hag <;> first
          | (obtain ⟨cs, hcs, _⟩ := hok; exact .inl ⟨rfl, cs, hcs⟩)
          | (refine .inr ⟨rfl, ?_⟩
             cases v <;> first
               | rfl
               | (exfalso; simp only [shT, hu] at hsh; cases hsh; done)
               | (exfalso; simp only [Cell.okWide, hu, Cell.ok] at hok; done)
               | (exfalso; simp only [Cell.okWide, hu, Cell.ok] at hok; exact hok))
    rcases hcase with ⟨rfl, cs, rfl⟩ | ⟨rfl, hcs⟩
    · exact ⟨R2, H2, .agg us.toArray :: vs', es :: dss, a1.trans b1, IHeap.sub_trans a2 b2, b3, .cons (.agg _ _ (by simpa [Value.cells] using a4.mono b1)) b4, ⟨⟨us.toArray, rfl, by simpa using a5.mono b2⟩, a6, b5⟩⟩
    · rw [hcs] at a4
      cases a4 with
      | cons h3 h4 =>
        cases h4
        exact ⟨R2, H2, _ :: vs', es :: dss, a1.trans b1, IHeap.sub_trans a2 b2, b3, .cons (h3.mono b1) b4, ⟨a5.mono b2, a6, b5⟩⟩

theorem below_all {W W' : World} (hl : laidOutB P = true) (hb : RowKit.Below W.heap.size W W') : ∀ {ts : List TypeId} {vs : List Value} {ds : List (DataW Hd)} {p : List MemPlace}, ts.all (fun t => P.readableRec t && decide (t < P.types.size)) = true →
    DataW.TrodAll enc P W 0 (fun _ => true) true ts vs ds p → DataW.TrodAll enc P W' 0 (fun b => decide (b < W.heap.size)) true ts vs ds p
  | [], vs, ds, p, _, h => by
    obtain ⟨rfl, rfl, rfl⟩ := Go.ChangeShapes.trodAll_nil h
    exact rfl
  | t :: ts, vs, ds, p, ha, h => by
    obtain ⟨v, vs, d, ds, a, b, rfl, rfl, rfl, h1, h2⟩ := Go.ChangeShapes.trodAll_cons h
    simp only [List.all_cons, Bool.and_eq_true, decide_eq_true_eq] at ha
    refine ⟨a, b, ?_, below_all hl hb (by simpa using ha.2) h2, rfl⟩
    have h1' := h1
    obtain ⟨m, hm⟩ := h1
    exact RowKit.Below.trod hl ha.1.1 ha.1.2 h1' hb (DataW.trod_lt m _ _ _ hm)

end

def emptyH : IHeap := ⟨fun _ => none, 0⟩
def emptyR : Ren := ⟨fun _ => False, fun _ => 0, fun _ => 0, fun _ => 0, fun _ => 0⟩
theorem laid_empty (w : World) : Laid emptyR emptyH w :=
  ⟨⟨fun _ h => h.elim, fun _ h => h.elim, fun _ _ h => h.elim, fun _ _ => rfl⟩, fun _ h => h⟩

/-- A law is proved where its ideal walk is. -/
theorem law_lifted {C : Checked} {f : FuncId} {fn : Func} {s : ChangeSpec} {CC : CallT} {pars : List (Bool × List Sh)} {rt : TypeId} (own : ownKnob C.prog.godebug = none) (hinit : C.prog.inits.idxOf? f = none) (hfn : C.prog.funcs[f]? = some fn)
    (hlaid : laidOutB C.prog = true) (hbody : fn.body.isNone = false) (hpars : parsT C.prog fn.params.toList = some pars) (hread : fn.params.toList.all (fun t => C.prog.readableRec t && decide (t < C.prog.types.size)) = true)
    (hres : fn.resultTypes = #[rt]) (hrt : C.prog.underlying rt = some .bool) (hvars : s.vars = []) (hs : ∀ (Hd : Type) (ds : List (DataW Hd)), ds.length = fn.params.toList.length → s.fn Hd ds = { results := [.lit (.bool true)], args := ds })
    (hC : CSim C.prog CC) (key : ∀ H vs dss, (∀ b, ¬ liveRW H b) → (∀ b, H.next ≤ b → H.get b = none) → ArgsOk H pars vs dss → CC f vs H (fun r _ => r = .bool true))
    {os : Os} (started : os.Started) {Hd : Type} {enc : TypeId × Value → Hd}
    (witness : ∃ (w : World) (tape : Tape) (i : Input), w.os = os ∧ (w.forCall tape i).Shaped C.prog ∧ i.vars = [] ∧ Input.okWide C.prog (w.forCall tape i) .any w.heap.size f i ∧
      s.pre6 enc C.prog fn [] false (w.forCall tape i).memory i.args ∧ Assume.holds {} C.prog (lone (Frame.enter C.prog f i.args .normal) [] (w.forCall tape i)))
    (hbody : fn.body.isNone = false := by kernel_rfl) :
    ReturnsInHanded {} C os f .any (s.pre6 enc C.prog fn [] false) (s.post enc C.prog fn false true false false) := by
  refine returnsInHanded_of_change_sized (C := C) own started hinit hfn witness ?_
  intro W base args ds gs before hval hW _ hsz _
  have hW' := hW
  obtain ⟨p, q, hA, hV, rfl, hfz, hnd⟩ := hW
  rw [hvars] at hV
  obtain ⟨rfl, rfl⟩ := Go.ChangeShapes.trodVars_none hV
  have hlen := Go.trodAll_length hA
  have hwt : ∀ z ∈ DataW.weightsEach C.prog fn.params.toList ds, z ≤ reachBytes := by
    intro z hz
    have e : s.plain.varTypes C.prog = [] := by unfold DataSpec.varTypes ChangeSpec.plain; simp [hvars]
    rw [e, List.append_nil, List.append_nil] at hsz
    simpa using List.all_eq_true.1 hsz z hz
  obtain ⟨R', H', us, dss, _, _, hL, hvs, hok⟩ := lay_args (base := base) fn.params.toList args.toList ds p pars hA hpars (fun j t v h1 h2 => hval j t v (by simpa using h1) (by simpa using h2)) hwt emptyR emptyH (laid_empty W)
  obtain ⟨_, hcall⟩ := (hC f us H' _ (key H' us dss hL.ro hL.sim.wf hok)).resolve_right fun hh => by
    have := hh.1 fn hfn
    rw [hbody] at this
    cases this
  refine (hcall R' W args hL.sim hvs).mono fun e W' he => ?_
  obtain ⟨r, r', R2, H2, rfl, rfl, hvr, hsim, hext⟩ := he
  have hr : r' = .bool true := by cases hvr; rfl
  subst hr
  have bel : RowKit.Below W.heap.size W W' := ⟨hext.os, hext.tape, hext.output, hext.size, fun k hk => hext.frame k hk fun b _ hb => (hL.ro b hb).elim⟩
  have hds : (ds ++ ([] : List (DataW Hd))).length = fn.params.toList.length := by simpa using hlen.2
  refine ⟨_, rfl, ds, [], p ++ [], [], p, [], hW', ?_, ?_, ?_, bel.frame _, fun h => by cases h⟩
  · rw [hs Hd _ hds, hres]
    exact Go.ChangeShapes.trodAll_mk1 (Go.RowKit.shut_bool hrt true)
  · rw [hs Hd _ hds, List.append_nil]
    exact below_all hlaid bel hread hA
  · rw [hs Hd _ hds, hvars]
    exact rfl

end Go.Proofs.YtndndcdblfejnaaGreatRI
namespace Go.Proofs.YtndndcdblfejnaaGreatRI
set_option linter.unusedSimpArgs false
set_option linter.unusedVariables false
open Go

/-- A program, what is known of it, and the numbers of functions and types under names of our own. -/
structure Ctx where
  P : Program
  IP : FuncId → Option IFunc
  X : CallT
  F : Nat → FuncId
  Ty : Nat → TypeId
  hX : LeC X X

def Ctx.C (c : Ctx) : CallT := ICall c.P c.IP c.X
theorem Ctx.mono (c : Ctx) : LeC c.C c.C := ICall.mono c.hX

/-- What holds where a function ends. -/
def retR (rs : List IRes) (K : Value → IHeap → Prop) : Exit → Env → IHeap → Prop
  | .ret, T, H | .normal, T, H => ∃ r, ires T H rs = some r ∧ K r H
  | _, _, _ => False
theorem retR_eq (g : IFunc) (K : Value → IHeap → Prop) : retPost g K = retR g.results K := by funext e T H; cases e <;> rfl

theorem Ctx.enter (c : Ctx) {f : FuncId} {g : IFunc} (h : c.IP f = some g) {args : List Value} {H : IHeap} {K : Value → IHeap → Prop} (hn : Nat.ble args.length g.ntmps = true) (hb : iwp c.P c.C g.body (retR g.results K) (envOf args) H) : c.C f args H K :=
  ICall.fold c.hX h ⟨Nat.le_of_ble_eq_true hn, by rw [retR_eq]; exact hb⟩

/-- It has grown, and all else is as it was. -/
structure IHeap.le (H H' : IHeap) : Prop where
  next : H.next ≤ H'.next
  get : ∀ b, b < H.next → H'.get b = H.get b

/-- But for these. -/
structure IHeap.upd (S : List Nat) (H H' : IHeap) : Prop where
  next : H.next ≤ H'.next
  get : ∀ b, b < H.next → b ∉ S → H'.get b = H.get b

theorem IHeap.le_refl (H : IHeap) : H.le H := ⟨Nat.le_refl _, fun _ _ => rfl⟩
theorem IHeap.le.trans {A B C : IHeap} (h : A.le B) (k : B.le C) : A.le C := ⟨Nat.le_trans h.next k.next, fun b hb => (k.get b (Nat.lt_of_lt_of_le hb h.next)).trans (h.get b hb)⟩
theorem IHeap.le_alloc (H : IHeap) (o : IObj) : H.le (H.alloc o) := ⟨Nat.le_succ _, fun b hb => alloc_get_lt H o hb⟩
theorem IHeap.le.alloc {A B : IHeap} (h : A.le B) (o : IObj) : A.le (B.alloc o) := h.trans (B.le_alloc o)
theorem IHeap.le.set {A B : IHeap} (h : A.le B) {i : Nat} (hi : A.next ≤ i) (o : IObj) : A.le (B.set i o) := ⟨h.next, fun b hb => by
  show (if b = i then some o else B.get b) = _
  rw [if_neg (by omega)]; exact h.get b hb⟩
theorem IHeap.upd_refl (S : List Nat) (H : IHeap) : IHeap.upd S H H := ⟨Nat.le_refl _, fun _ _ _ => rfl⟩
theorem IHeap.le.upd {A B : IHeap} (h : A.le B) (S : List Nat) : IHeap.upd S A B := ⟨h.next, fun b hb _ => h.get b hb⟩
theorem IHeap.upd.alloc {S : List Nat} {A B : IHeap} (h : IHeap.upd S A B) (o : IObj) : IHeap.upd S A (B.alloc o) :=
  ⟨Nat.le_trans h.next (Nat.le_succ _), fun b hb hs => by rw [alloc_get_lt B o (Nat.lt_of_lt_of_le hb h.next)]; exact h.get b hb hs⟩
theorem IHeap.upd.set {S : List Nat} {A B : IHeap} (h : IHeap.upd S A B) {i : Nat} (hi : A.next ≤ i ∨ i ∈ S) (o : IObj) : IHeap.upd S A (B.set i o) := ⟨h.next, fun b hb hs => by
  show (if b = i then some o else B.get b) = _
  rw [if_neg (by rintro rfl; rcases hi with hi | hi; omega; exact hs hi)]; exact h.get b hb hs⟩

theorem YX (H : IHeap) (o : IObj) : (H.alloc o).next = H.next + 1 := rfl
theorem YY (H : IHeap) (i : Nat) (o : IObj) : (H.set i o).next = H.next := rfl
theorem YV (H : IHeap) (o : IObj) (b : Nat) : (H.alloc o).get b = if b = H.next then some o else H.get b := rfl
theorem YW (H : IHeap) (i : Nat) (o : IObj) (b : Nat) : (H.set i o).get b = if b = i then some o else H.get b := rfl
theorem YC (T : Env) (d : Nat) (v : Value) (t : Nat) : (T.put (some d) v) t = if t = d then v else T t := rfl
theorem YD (T : Env) (v : Value) : T.put none v = T := rfl
theorem Yz (T : Env) (t : Nat) : ev T (.tmp t) = T t := rfl
theorem YA (T : Env) (v : Value) : ev T (.const v) = v := rfl
theorem YB (T : Env) (f : FuncId) : ev T (.func f) = .func (.func f) #[] #[] := rfl
theorem YE (l : List Value) (t : Nat) : envOf l t = l.getD t undef := rfl

/-! ### The walk: each step under a name, what comes behind it as data -/

section
variable {P : Program} {C : CallT}

def runO (P : Program) (C : CallT) (r : Option Value) (d : Option Nat) (os : List IOper) (K : Env → IHeap → Prop) (T : Env) (H : IHeap) : Prop := ∃ v, r = some v ∧ iwpOps P C os K (T.put d v) H
def runA (P : Program) (C : CallT) (r : Option (IObj × (Nat → Value))) (d : Option Nat) (os : List IOper) (K : Env → IHeap → Prop) (T : Env) (H : IHeap) : Prop := ∃ x, r = some x ∧ iwpOps P C os K (T.put d (x.2 H.next)) (H.alloc x.1)
def runX (P : Program) (C : CallT) (r : Option (Value × IHeap)) (d : Option Nat) (os : List IOper) (K : Env → IHeap → Prop) (T : Env) : Prop := ∃ x, r = some x ∧ iwpOps P C os K (T.put d x.1) x.2
def callO (P : Program) (C : CallT) (f : FuncId) (args : List Value) (d : Option Nat) (os : List IOper) (K : Env → IHeap → Prop) (T : Env) (H : IHeap) : Prop := C f args H fun v H' => iwpOps P C os K (T.put d v) H'
def runF (P : Program) (C : CallT) (f : Value) (args : List Value) (d : Option Nat) (os : List IOper) (K : Env → IHeap → Prop) (T : Env) (H : IHeap) : Prop := match f with
  | .func (.func g) a b => callO P C g (a.toList ++ args ++ b.toList) d os K T H
  | _ => False
def runG (P : Program) (C : CallT) (b : Bool) (d : Option Nat) (o : IOp) (os : List IOper) (K : Env → IHeap → Prop) (T : Env) (H : IHeap) : Prop := match b with
  | true => iop P C T H o fun v H' => iwpOps P C os K (T.put d v) H'
  | false => iwpOps P C os K (T.put d undef) H
def runC (P : Program) (C : CallT) (v : Value) (a b : ICode) (Q : Exit → Env → IHeap → Prop) (T : Env) (H : IHeap) : Prop := match v with
  | .bool true => iwp P C a Q T H
  | .bool false => iwp P C b Q T H
  | _ => False
def retO (r : Option Value) (K : Value → IHeap → Prop) (H : IHeap) : Prop := ∃ v, r = some v ∧ K v H
def wantV (v : Value) (w : Bool) : Bool := match v with
  | .bool b => b == w
  | _ => false

variable {Q : Exit → Env → IHeap → Prop} {N K : Env → IHeap → Prop} {T : Env} {H : IHeap} {a b : ICode} {d : Option Nat} {o : IOp} {os : List IOper} {g : Option (Nat × Bool)}

theorem J0 : iwp P C .skip Q T H = Q .normal T H := rfl
theorem J1 {l : List IOper} : iwp P C (.ops l) Q T H = iwpOps P C l (Q .normal) T H := rfl
theorem J2 {l : List (IOper × List IOper)} : iwp P C (.draw l) Q T H = iwpDraw P C l (Q .normal) T H := rfl
theorem J3 : iwp P C (.seq a b) Q T H = iwp P C a (thenI (iwp P C b Q) Q) T H := rfl
theorem J4 {c : Operand} : iwp P C (.cond c a b) Q T H = runC P C (ev T c) a b Q T H := rfl
theorem J5 {id : Nat} : iwp P C (.block id a) Q T H = iwp P C a (blockI id Q) T H := rfl
theorem J6 {id : Nat} : iwp P C (.exit id) Q T H = Q (.exit id) T H := rfl
theorem J7 : iwp P C .ret Q T H = Q .ret T H := rfl
theorem J8 : thenI N Q .normal T H = N T H := rfl
theorem J9 : thenI N Q .ret T H = Q .ret T H := rfl
theorem Ja {id : Nat} : thenI N Q (.exit id) T H = Q (.exit id) T H := rfl
theorem Jb {id : Nat} : blockI id Q .normal T H = Q .normal T H := rfl
theorem Jc {id : Nat} : blockI id Q .ret T H = Q .ret T H := rfl
theorem Jd {id id' : Nat} : blockI id Q (.exit id') T H = if id' = id then Q .normal T H else Q (.exit id') T H := rfl
theorem Je : runC P C (.bool true) a b Q T H = iwp P C a Q T H := rfl
theorem Jf : runC P C (.bool false) a b Q T H = iwp P C b Q T H := rfl
theorem Jg : wantedI T none = true := rfl
theorem Jh {d : Nat} {w : Bool} : wantedI T (some (d, w)) = wantV (T d) w := rfl
theorem Ji {b w : Bool} : wantV (.bool b) w = (b == w) := rfl
theorem Jj {w : Bool} : wantV undef w = false := rfl
theorem Jk : iwpOps P C [] K T H = K T H := rfl
theorem Jl : iwpOps P C (⟨d, o, g⟩ :: os) K T H = runG P C (wantedI T g) d o os K T H := by unfold runG; rfl
theorem Jm : runG P C false d o os K T H = iwpOps P C os K (T.put d undef) H := rfl
def runK (P : Program) (C : CallT) (k : IKind) (d : Option Nat) (o : IOp) (os : List IOper) (K : Env → IHeap → Prop) (T : Env) (H : IHeap) : Prop := match k with
  | .rd => runO P C (ird P T H o) d os K T H
  | .al => runA P C (ial T o) d os K T H
  | .ac => runX P C (iact P T H o) d os K T
  | .ca => icall C T H (fun v H' => iwpOps P C os K (T.put d v) H') o
theorem Jn : runG P C true d o os K T H = runK P C o.kind d o os K T H := by unfold runG iop runK runO runA runX; simp only []; cases o.kind <;> rfl
theorem Jo : runK P C .rd d o os K T H = runO P C (ird P T H o) d os K T H := rfl
theorem Jp : runK P C .al d o os K T H = runA P C (ial T o) d os K T H := rfl
theorem Jq : runK P C .ac d o os K T H = runX P C (iact P T H o) d os K T := rfl
theorem Jr {f : FuncId} {args : List Operand} : runK P C .ca d (.call f args) os K T H = callO P C f (args.map (ev T)) d os K T H := rfl
theorem Js {f : Operand} {args : List Operand} : runK P C .ca d (.callDyn f args) os K T H = runF P C (ev T f) (args.map (ev T)) d os K T H := by unfold runK runF; simp only [icall]; generalize ev T f = x; split <;> first | rfl | (split <;> simp_all)
theorem Jt {x : Operand} : runK P C .ca d (.rangeMap x) os K T H = rangeI H (fun v H' => iwpOps P C os K (T.put d v) H') (ev T x) := rfl
theorem Ju {x : Operand} : runK P C .ca d (.nextMap x) os K T H = nextI2 H (fun v H' => iwpOps P C os K (T.put d v) H') (ev T x) := rfl
theorem Jv {x : Operand} : runK P C .ca d (.entryMap x) os K T H = entryI H (fun v H' => iwpOps P C os K (T.put d v) H') (ev T x) := rfl
theorem Jw {v : Value} : runO P C (some v) d os K T H = iwpOps P C os K (T.put d v) H := by simp [runO]
theorem Jx {x : IObj} {mk : Nat → Value} : runA P C (some (x, mk)) d os K T H = iwpOps P C os K (T.put d (mk H.next)) (H.alloc x) := by simp [runA]
theorem Jy {v : Value} {H' : IHeap} : runX P C (some (v, H')) d os K T = iwpOps P C os K (T.put d v) H' := by simp [runX]
theorem Jz {f : FuncId} {x y : Array Value} {args : List Value} : runF P C (.func (.func f) x y) args d os K T H = callO P C f (x.toList ++ args ++ y.toList) d os K T H := rfl
theorem JA {rs : List IRes} {K : Value → IHeap → Prop} : retR rs K .ret T H = retO (ires T H rs) K H := rfl
theorem JB {rs : List IRes} {K : Value → IHeap → Prop} : retR rs K .normal T H = retO (ires T H rs) K H := rfl
theorem JC {v : Value} {K : Value → IHeap → Prop} : retO (some v) K H = K v H := by simp [retO]
theorem call_of {f : FuncId} {args : List Value} (h : C f args H fun v H' => iwpOps P C os K (T.put d v) H') : callO P C f args d os K T H := h

/-! where the order is drawn -/

def dO (P : Program) (C : CallT) (r : Option Value) (d : Option Nat) (st : List IOper) (os : List (IOper × List IOper)) (K : Env → IHeap → Prop) (T : Env) (H : IHeap) : Prop := ∃ v, r = some v ∧ stillAll P (T.put d v) H st ∧ iwpDraw P C os K (T.put d v) H
def dA (P : Program) (C : CallT) (r : Option (IObj × (Nat → Value))) (d : Option Nat) (st : List IOper) (os : List (IOper × List IOper)) (K : Env → IHeap → Prop) (T : Env) (H : IHeap) : Prop := ∃ x, r = some x ∧ stillAll P (T.put d (x.2 H.next)) (H.alloc x.1) st ∧ iwpDraw P C os K (T.put d (x.2 H.next)) (H.alloc x.1)
def dX (P : Program) (C : CallT) (r : Option (Value × IHeap)) (d : Option Nat) (st : List IOper) (os : List (IOper × List IOper)) (K : Env → IHeap → Prop) (T : Env) : Prop := ∃ x, r = some x ∧ stillAll P (T.put d x.1) x.2 st ∧ iwpDraw P C os K (T.put d x.1) x.2
def dcallO (P : Program) (C : CallT) (f : FuncId) (args : List Value) (d : Option Nat) (st : List IOper) (os : List (IOper × List IOper)) (K : Env → IHeap → Prop) (T : Env) (H : IHeap) : Prop := C f args H fun v H' => match st with
  | [] => iwpDraw P C os K (T.put d v) H'
  | _ => stillAll P (T.put d v) H' st ∧ iwpDraw P C os K (T.put d v) H'
def dF (P : Program) (C : CallT) (f : Value) (args : List Value) (d : Option Nat) (st : List IOper) (os : List (IOper × List IOper)) (K : Env → IHeap → Prop) (T : Env) (H : IHeap) : Prop := match f with
  | .func (.func g) a b => dcallO P C g (a.toList ++ args ++ b.toList) d st os K T H
  | _ => False
def dG (P : Program) (C : CallT) (b : Bool) (d : Option Nat) (o : IOp) (st : List IOper) (os : List (IOper × List IOper)) (K : Env → IHeap → Prop) (T : Env) (H : IHeap) : Prop := match b with
  | true => iop P C T H o fun v H' => match st with
    | [] => iwpDraw P C os K (T.put d v) H'
    | _ => stillAll P (T.put d v) H' st ∧ iwpDraw P C os K (T.put d v) H'
  | false => iwpDraw P C os K (T.put d undef) H

variable {st : List IOper} {ds : List (IOper × List IOper)}
theorem still_and {T : Env} {p : Prop} : (match st with | [] => p | _ => stillAll P T H st ∧ p) = (stillAll P T H st ∧ p) := by cases st <;> simp [stillAll]
theorem JD : iwpDraw P C [] K T H = K T H := rfl
theorem JE : iwpDraw P C ((⟨d, o, g⟩, st) :: ds) K T H = dG P C (wantedI T g) d o st ds K T H := by unfold dG; rfl
theorem JF : dG P C false d o st ds K T H = iwpDraw P C ds K (T.put d undef) H := rfl
def dK (P : Program) (C : CallT) (k : IKind) (d : Option Nat) (o : IOp) (st : List IOper) (os : List (IOper × List IOper)) (K : Env → IHeap → Prop) (T : Env) (H : IHeap) : Prop := match k with
  | .rd => dO P C (ird P T H o) d st os K T H
  | .al => dA P C (ial T o) d st os K T H
  | .ac => dX P C (iact P T H o) d st os K T
  | .ca => icall C T H (fun v H' => match st with
    | [] => iwpDraw P C os K (T.put d v) H'
    | _ => stillAll P (T.put d v) H' st ∧ iwpDraw P C os K (T.put d v) H') o
theorem JG : dG P C true d o st ds K T H = dK P C o.kind d o st ds K T H := by unfold dG iop dK dO dA dX; simp only [still_and]; cases o.kind <;> rfl
theorem JH : dK P C .rd d o st ds K T H = dO P C (ird P T H o) d st ds K T H := rfl
theorem JI : dK P C .al d o st ds K T H = dA P C (ial T o) d st ds K T H := rfl
theorem JJ : dK P C .ac d o st ds K T H = dX P C (iact P T H o) d st ds K T := rfl
theorem JK {f : FuncId} {args : List Operand} : dK P C .ca d (.call f args) st ds K T H = dcallO P C f (args.map (ev T)) d st ds K T H := rfl
theorem JL {f : Operand} {args : List Operand} : dK P C .ca d (.callDyn f args) st ds K T H = dF P C (ev T f) (args.map (ev T)) d st ds K T H := by unfold dK dF; simp only [icall]; generalize ev T f = x; split <;> first | rfl | (split <;> simp_all)
theorem JM {v : Value} : dO P C (some v) d st ds K T H = (stillAll P (T.put d v) H st ∧ iwpDraw P C ds K (T.put d v) H) := by simp [dO]
theorem JN {x : IObj} {mk : Nat → Value} : dA P C (some (x, mk)) d st ds K T H = (stillAll P (T.put d (mk H.next)) (H.alloc x) st ∧ iwpDraw P C ds K (T.put d (mk H.next)) (H.alloc x)) := by simp [dA]
theorem JO {v : Value} {H' : IHeap} : dX P C (some (v, H')) d st ds K T = (stillAll P (T.put d v) H' st ∧ iwpDraw P C ds K (T.put d v) H') := by simp [dX]
theorem JP {f : FuncId} {x y : Array Value} {args : List Value} : dF P C (.func (.func f) x y) args d st ds K T H = dcallO P C f (x.toList ++ args ++ y.toList) d st ds K T H := rfl
theorem dcall_of {f : FuncId} {args : List Value} (hC : LeC C C) (h : C f args H fun v H' => stillAll P (T.put d v) H' st ∧ iwpDraw P C ds K (T.put d v) H') : dcallO P C f args d st ds K T H := by
  unfold dcallO
  refine hC _ _ _ _ _ (fun v H' k => ?_) h
  rw [still_and]; exact k
theorem JQ : stillAll P T H [] = True := rfl
theorem JR {o : IOper} : stillAll P T H [o] = stillI P T H o := rfl
theorem JS {o p : IOper} {os : List IOper} : stillAll P T H (o :: p :: os) = (stillI P T H o ∧ stillAll P T H (p :: os)) := rfl
end

end Go.Proofs.YtndndcdblfejnaaGreatRI
namespace Go.Proofs.YtndndcdblfejnaaGreatRI
set_option linter.unusedSimpArgs false
set_option linter.unusedVariables false
open Go

theorem wrap64 {n : Int} (h : -9223372036854775808 ≤ n) (k : n < 9223372036854775808) : IntKind.i64.wrap n = n := by
  have e1 : (2 ^ IntKind.i64.bits : Int) = 18446744073709551616 := by decide
  have e2 : (2 ^ (IntKind.i64.bits - 1) : Int) = 9223372036854775808 := by decide
  unfold IntKind.wrap
  simp only [e1, e2, IntKind.signed, Bool.true_and]
  by_cases hn : 0 ≤ n
  · have : n % 18446744073709551616 = n := by omega
    rw [this]
    simp only [ge_iff_le]
    rw [if_neg (by simp; omega)]
  · have : n % 18446744073709551616 = n + 18446744073709551616 := by omega
    rw [this, if_pos (by simp; omega)]
    omega

theorem wf64 {n : Int} (h : (Lit.int .i64 n).wf = true) : -9223372036854775808 ≤ n ∧ n < 9223372036854775808 := by
  simp only [Lit.wf, Bool.and_eq_true, decide_eq_true_eq] at h
  have e1 : IntKind.i64.min = -9223372036854775808 := by decide
  have e2 : IntKind.i64.max = 9223372036854775807 := by decide
  omega

/-- A slice of rows, each of so many cells. -/
def SlR (H : IHeap) (size : Nat) (v : Value) (rows : List (List Value)) : Prop :=
  ∃ a cap, v = .slice a rows.length cap ∧ (rows ≠ [] → ∃ b o cs ro, a = some ⟨b, o, none⟩ ∧ b < H.next ∧ H.get b = some (.cells cs ro) ∧
    ∀ i r, rows[i]? = some r → r.length = size ∧ (cs.drop (o + i * size)).take size = r ∧ o + i * size + size ≤ cs.length)

theorem SlR.le {H H' : IHeap} {size : Nat} {v : Value} {rows : List (List Value)} (h : SlR H size v rows) (hl : H.le H') : SlR H' size v rows := by
  obtain ⟨a, cap, h1, h2⟩ := h
  refine ⟨a, cap, h1, fun hne => ?_⟩
  obtain ⟨b, o, cs, ro, h3, h4, h5, h6⟩ := h2 hne
  exact ⟨b, o, cs, ro, h3, Nat.lt_of_lt_of_le h4 hl.next, by rw [hl.get b h4]; exact h5, h6⟩

/-- A part of a row. -/
theorem win {cs r : List Value} {p n : Nat} (h : (cs.drop p).take n = r) (k m : Nat) (hk : k + m ≤ n) : (cs.drop (p + k)).take m = (r.drop k).take m := by
  subst h
  rw [List.drop_take, List.take_take, List.drop_drop, Nat.min_eq_left (by omega)]

/-! ### bits, under names -/
def andW (k : IntKind) (a b : Int) : Int := k.wrap (BitVec.ofInt k.bits a &&& BitVec.ofInt k.bits b).toNat
def orW (k : IntKind) (a b : Int) : Int := k.wrap (BitVec.ofInt k.bits a ||| BitVec.ofInt k.bits b).toNat
def xorW (k : IntKind) (a b : Int) : Int := k.wrap (BitVec.ofInt k.bits a ^^^ BitVec.ofInt k.bits b).toNat
def shlW (k : IntKind) (a b : Int) : Int := k.wrap (a * 2 ^ min b.toNat k.bits)
def shrW (k : IntKind) (a b : Int) : Int := a.fdiv (2 ^ min b.toNat k.bits)
section
variable {k : IntKind} {a b : Int}
theorem YF : int2 .add k a b = some (.int k (k.wrap (a + b))) := rfl
theorem YG : int2 .sub k a b = some (.int k (k.wrap (a - b))) := rfl
theorem YH : int2 .mul k a b = some (.int k (k.wrap (a * b))) := rfl
theorem YI : int2 .quo k a b = if b = 0 then none else some (.int k (k.wrap (a.tdiv b))) := rfl
theorem YJ : int2 .rem k a b = if b = 0 then none else some (.int k (a.tmod b)) := rfl
theorem YK : int2 .and k a b = some (.int k (andW k a b)) := rfl
theorem YL : int2 .or k a b = some (.int k (orW k a b)) := rfl
theorem YM : int2 .xor k a b = some (.int k (xorW k a b)) := rfl
theorem YN : int2 .eql k a b = some (.bool (decide (a = b))) := rfl
theorem YO : int2 .neq k a b = some (.bool (decide (a ≠ b))) := rfl
theorem YP : int2 .lss k a b = some (.bool (decide (a < b))) := rfl
theorem YQ : int2 .leq k a b = some (.bool (decide (a ≤ b))) := rfl
theorem YR : int2 .gtr k a b = some (.bool (decide (b < a))) := rfl
theorem YS : int2 .geq k a b = some (.bool (decide (b ≤ a))) := rfl
theorem YT : shf2 .shl k a b = if b < 0 then none else some (.int k (shlW k a b)) := rfl
theorem YU : shf2 .shr k a b = if b < 0 then none else some (.int k (shrW k a b)) := rfl
end

/-! ### cells of values -/
section
variable {k : IntKind} {n : Int} {b : Bool} {fk : FloatKind} {x y : Nat} {s : ByteArray} {a : Option Addr} {r : Option Nat} {fn : Fn} {p q : Array Value} {t : TypeId} {v : Value} {l : List UInt8}
theorem YZ : one1 (.bool b) = true := rfl
theorem B0 : Value.cells (.bool b) = #[.bool b] := rfl
theorem B1 : one1 (.int k n) = true := rfl
theorem B2 : Value.cells (.int k n) = #[.int k n] := rfl
theorem B3 : one1 (.float fk x) = true := rfl
theorem B4 : Value.cells (.float fk x) = #[.float fk x] := rfl
theorem B5 : one1 (.complex fk x y) = true := rfl
theorem B6 : Value.cells (.complex fk x y) = #[.complex fk x y] := rfl
theorem B7 : one1 (.string s) = true := rfl
theorem B8 : Value.cells (.string s) = #[.string s] := rfl
theorem B9 : one1 (.pointer a) = true := rfl
theorem Ba : Value.cells (.pointer a) = #[.pointer a] := rfl
theorem Bb : one1 (.slice a x y) = true := rfl
theorem Bc : Value.cells (.slice a x y) = #[.slice a x y] := rfl
theorem Bd : one1 (.map r) = true := rfl
theorem Be : Value.cells (.map r) = #[.map r] := rfl
theorem Bf : one1 (.func fn p q) = true := rfl
theorem Bg : Value.cells (.func fn p q) = #[.func fn p q] := rfl
theorem Bh : one1 (.nilFunc) = true := rfl
theorem Bi : Value.cells (.nilFunc) = #[.nilFunc] := rfl
theorem Bj : one1 (.iface t v) = true := rfl
theorem Bk : Value.cells (.iface t v) = #[.iface t v] := rfl
theorem Bl : one1 (.nilIface) = true := rfl
theorem Bm : Value.cells (.nilIface) = #[.nilIface] := rfl
theorem Bn : one1 (strV l) = true := rfl
theorem Bo : Value.cells (strV l) = #[strV l] := rfl
theorem Bp : Value.cells (.agg p) = p := rfl
end

/-! ### maps' operations, under names -/
def lookR (P : Program) (H : IHeap) (kt : TypeId) (zero : Value) (ok : Bool) (mv kv : Value) : Option Value :=
  match entriesI H mv with
    | some es =>
      if keyOk P kt kv es = true then
        match findI P kt kv es 0 with
        | some (some i) => match es[i]? with
          | some e => some (if ok then .tuple #[e.val, .bool true] else e.val)
          | none => none
        | some none => some (if ok then .tuple #[zero, .bool false] else zero)
        | none => none
      else none
    | none => none
def putR (P : Program) (H : IHeap) (kt : TypeId) (mv kv vv : Value) : Option (Value × IHeap) :=
  match mv with
    | .map (some r) => match H.get r with
      | some (.map es clock) =>
        if keyOk P kt kv es = true then
          match findI P kt kv es 0 with
          | some (some i) =>
            if Instr.sameBits 10000 (((es[i]?).map (·.key)).getD kv) kv = true then
              some (undef, H.set r (.map (es.modify i fun e => { e with key := kv, val := vv }) clock)) else none
          | some none => some (undef, H.set r (.map (es ++ [{ key := kv, val := vv, born := clock }]) (clock + 1)))
          | none => none
        else none
      | _ => none
    | _ => none
def delR (P : Program) (H : IHeap) (kt : TypeId) (mv kv : Value) : Option (Value × IHeap) :=
  match mv with
    | .map (some r) => match H.get r with
      | some (.map es clock) =>
        if keyOk P kt kv es = true then
          match findI P kt kv es 0 with
          | some (some i) => some (.tuple #[], H.set r (.map (es.eraseIdx i) clock))
          | some none => some (.tuple #[], H.set r (.map es clock))
          | none => none
        else none
      | _ => none
    | _ => none
theorem Yq {P : Program} {T : Env} {H : IHeap} {kt : TypeId} {zero : Value} {ok : Bool} {m k : Operand} : ird P T H (.lookup kt zero ok m k) = lookR P H kt zero ok (ev T m) (ev T k) := rfl
theorem Yx {P : Program} {T : Env} {H : IHeap} {kt : TypeId} {m k v : Operand} : iact P T H (.mapUpdate kt m k v) = putR P H kt (ev T m) (ev T k) (ev T v) := rfl
theorem Yy {P : Program} {T : Env} {H : IHeap} {kt : TypeId} {m k : Operand} : iact P T H (.delete kt m k) = delR P H kt (ev T m) (ev T k) := rfl

theorem JT : type_of% @ird.eq_2 := @ird.eq_2
theorem JU : type_of% @ird.eq_3 := @ird.eq_3
theorem JV : type_of% @ird.eq_4 := @ird.eq_4
theorem JW : type_of% @ird.eq_5 := @ird.eq_5
theorem JX : type_of% @ird.eq_6 := @ird.eq_6
theorem JY : type_of% @ird.eq_7 := @ird.eq_7
theorem JZ : type_of% @ird.eq_8 := @ird.eq_8
theorem Y0 : type_of% @ird.eq_9 := @ird.eq_9
theorem Y1 : type_of% @ird.eq_10 := @ird.eq_10
theorem Y2 : type_of% @ird.eq_11 := @ird.eq_11
theorem Y3 : type_of% @ird.eq_12 := @ird.eq_12
theorem Y4 : type_of% @ird.eq_13 := @ird.eq_13
theorem Y5 : type_of% @ird.eq_14 := @ird.eq_14
theorem Y6 : type_of% @ird.eq_15 := @ird.eq_15
theorem Y7 : type_of% @ird.eq_16 := @ird.eq_16
theorem Y8 : type_of% @ird.eq_17 := @ird.eq_17
theorem Y9 : type_of% @ird.eq_18 := @ird.eq_18
theorem Ya : type_of% @ird.eq_19 := @ird.eq_19
theorem Yb : type_of% @ird.eq_20 := @ird.eq_20
theorem Yc : type_of% @ird.eq_21 := @ird.eq_21
theorem Yd : type_of% @ird.eq_22 := @ird.eq_22
theorem Ye : type_of% @ird.eq_23 := @ird.eq_23
theorem Yf : type_of% @ird.eq_24 := @ird.eq_24
theorem Yg : type_of% @ird.eq_25 := @ird.eq_25
theorem Yh : type_of% @ird.eq_27 := @ird.eq_27
theorem Yi : type_of% @ird.eq_28 := @ird.eq_28
theorem Yj : type_of% @ird.eq_29 := @ird.eq_29
theorem Yk : type_of% @ird.eq_30 := @ird.eq_30
theorem Yl : type_of% @ird.eq_31 := @ird.eq_31
theorem Ym : type_of% @ird.eq_32 := @ird.eq_32
theorem Yn : type_of% @ird.eq_33 := @ird.eq_33
theorem Yo : type_of% @ird.eq_34 := @ird.eq_34
theorem Yp : type_of% @ird.eq_35 := @ird.eq_35
theorem Yr : type_of% @iact.eq_1 := @iact.eq_1
theorem Ys : type_of% @iact.eq_2 := @iact.eq_2
theorem Yt : type_of% @iact.eq_3 := @iact.eq_3
theorem Yu : type_of% @iact.eq_4 := @iact.eq_4
theorem Yv : type_of% @iact.eq_5 := @iact.eq_5
theorem Yw : type_of% @iact.eq_6 := @iact.eq_6
end Go.Proofs.YtndndcdblfejnaaGreatRI
