/- What is known besides: errors.Is of nil, and of a fault. -/
import Derived.Test.YtndndcdblfejnaaGreatRInsV3
namespace Go.Proofs.YtndndcdblfejnaaGreatRI
set_option linter.unusedSimpArgs false
set_option linter.unusedVariables false
open Go

def isX (g : FuncId) (t : TypeId) : CallT := fun f args H K => f = g ∧
  ((∃ z, args = [.nilIface, .iface t z] ∧ K (.bool false) H) ∨ ∃ e : Int, (e = 1 ∨ e = 2 ∨ e = 6 ∨ e = 7) ∧ args = [.iface t (.agg #[.int .i64 e]), .iface t (.agg #[.int .i64 0])] ∧ K (.bool true) H)
theorem isX_mono (g : FuncId) (t : TypeId) : LeC (isX g t) (isX g t) := by
  rintro f a H K K' hK ⟨h0, h⟩
  refine ⟨h0, ?_⟩
  rcases h with ⟨z, h1, h2⟩ | ⟨e, h1, h2, h3⟩
  · exact .inl ⟨z, h1, hK _ _ h2⟩
  · exact .inr ⟨e, h1, h2, hK _ _ h3⟩

section
variable {P : Program}
theorem post_grow {R : Ren} {H : IHeap} {w w' : World} {K : Value → IHeap → Prop} {b : Bool} (hS : Sim R H w) (hsz : w.heap.size ≤ w'.heap.size) (hold : ∀ k, k < w.heap.size → w'.heap[k]? = w.heap[k]?)
    (hos : w'.os = w.os) (htp : w'.tape = w.tape) (hou : w'.output = w.output) (hk : K (.bool b) H) : callPost K R H w (.returned (.bool b)) w' := by
  refine ⟨.bool b, .bool b, R, H, rfl, hk, .bool b, ⟨hS.lt, fun x hx => ?_, hS.inj, hS.wf⟩, ⟨R.le_refl, Nat.le_refl _, fun _ h => .inl h, fun _ _ _ => rfl, fun _ _ h _ => h, fun k hk _ => hold k hk, fun b hb hl => .inr ⟨b, hb, hl, rfl⟩, hsz, hos, htp, hou⟩⟩
  have ho := hS.obj x hx
  cases hg : H.get x with
  | none => rw [hg] at ho; exact ho.elim
  | some o =>
    by_cases hd : o = .dead
    · subst hd; trivial
    · rw [← hg]
      have hl : live H x := by unfold live; rw [hg]; cases o <;> first | trivial | exact absurd rfl hd
      refine ho.move R.le_refl hx fun y hy => ?_
      rw [hold _ (hS.blk_lt hx hl)]; exact hy

theorem isX_sim {g : FuncId} {t : TypeId} (hen : ∀ (as : Array Value) (w : World), (callFunc g as).run P w = .ok (.enter g as) w)
    (hnil : ∀ (v : Value) (w : World), Calls P g #[.nilIface, .iface t v] w fun e w' => e = .returned (.bool false) ∧ w' = w)
    (hft : ∀ e : Int, (e = 1 ∨ e = 2 ∨ e = 6 ∨ e = 7) → ∀ w : World, Calls P g #[.iface t (.agg #[.int .i64 e]), .iface t (.agg #[.int .i64 0])] w fun r w' => r = .returned (.bool true) ∧ ∃ a b, w' = (w.alloc a).alloc b) : CSim P (isX g t) := by
  have one : ∀ {R : Ren} {n : Int} {v : Value}, VR R (.agg #[.int .i64 n]) v → v = .agg #[.int .i64 n] := by
    intro R n v h
    cases h with
    | agg _ a' h =>
      obtain ⟨l⟩ := a'
      cases h with
      | cons h1 h2 => cases h2; cases h1; rfl
  rintro f args H K ⟨rfl, h⟩
  refine .inl ⟨hen, fun R w args' hS hA => ?_⟩
  obtain ⟨l⟩ := args'
  rcases h with ⟨z, rfl, hk⟩ | ⟨e, he, rfl, hk⟩
  · cases hA with
    | cons hs hr =>
      cases hr with
      | cons hs2 hr =>
        cases hr
        rename_i u v
        have eu : u = .nilIface := by cases hs; rfl
        obtain ⟨v', ev⟩ : ∃ v', v = .iface t v' := by cases hs2; exact ⟨_, rfl⟩
        subst eu
        subst ev
        refine (hnil v' w).mono fun e w' he => ?_
        obtain ⟨rfl, rfl⟩ := he
        exact post_grow hS (Nat.le_refl _) (fun _ _ => rfl) rfl rfl rfl hk
  · cases hA with
    | cons hs hr =>
      cases hr with
      | cons hs2 hr =>
        cases hr
        rename_i u v
        have eu : u = .iface t (.agg #[.int .i64 e]) := by
          cases hs with
          | iface _ _ v' h => rw [one h]
        have ev : v = .iface t (.agg #[.int .i64 0]) := by
          cases hs2 with
          | iface _ _ v' h => rw [one h]
        subst eu
        subst ev
        refine (hft e he w).mono fun r w' hr => ?_
        obtain ⟨rfl, a, b, rfl⟩ := hr
        refine post_grow hS (by show w.heap.size ≤ ((w.heap.push a).push b).size; rw [Array.size_push, Array.size_push]; omega) (fun k hk => ?_) rfl rfl rfl hk
        have h1 : k < (w.heap.push a).size := by rw [Array.size_push]; omega
        show ((w.heap.push a).push b)[k]? = w.heap[k]?
        rw [Array.getElem?_push_lt h1, Array.getElem?_eq_getElem hk, Array.getElem_push_lt hk]
end
end Go.Proofs.YtndndcdblfejnaaGreatRI
