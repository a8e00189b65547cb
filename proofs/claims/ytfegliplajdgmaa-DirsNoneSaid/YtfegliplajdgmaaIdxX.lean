/- What is known besides: where a byte is in a text. -/
import Derived.Test.YtfegliplajdgmaaInsX
import Derived.Laws.Externs
namespace Go.Proofs.YtfegliplajdgmaaI
set_option linter.unusedSimpArgs false
set_option linter.unusedVariables false
open Go

def idxX (g : FuncId) : CallT := fun f args H K => f = g ∧ ∃ (t : List UInt8) (b : UInt8), args = [strV t, .int .u8 (b.toNat : Nat)] ∧ ∀ n : Int, (n < 0 ↔ ¬ b ∈ t) → K (.int .i64 n) H
theorem idxX_mono (g : FuncId) : LeC (idxX g) (idxX g) := by
  rintro f a H K K' hK ⟨h0, t, b, h1, h2⟩
  exact ⟨h0, t, b, h1, fun n hn => hK _ _ (h2 n hn)⟩
theorem firstIdx_neg (t : List UInt8) (b : UInt8) : firstIdx ⟨t.toArray⟩ b < 0 ↔ ¬ b ∈ t := by
  have hsz : (ByteArray.mk t.toArray).size = t.length := rfl
  unfold firstIdx
  rw [hsz]
  cases hf : (List.range t.length).find? (fun i => (ByteArray.mk t.toArray)[i]! == b) with
  | none =>
    simp only [Int.reduceNeg, Int.reduceLT, true_iff]
    intro hm
    obtain ⟨i, hi⟩ := List.getElem?_of_mem hm
    obtain ⟨hil, hie⟩ := List.getElem?_eq_some_iff.1 hi
    have := List.find?_eq_none.1 hf i (List.mem_range.2 hil)
    have e1 : (ByteArray.mk t.toArray)[i]! = t[i] := getElem!_pos (ByteArray.mk t.toArray) i hil
    rw [e1, hie] at this
    simp at this
  | some i =>
    have h1 := List.find?_some hf
    have h2 := List.mem_range.1 (List.mem_of_find?_eq_some hf)
    have e1 : (ByteArray.mk t.toArray)[i]! = t[i] := getElem!_pos (ByteArray.mk t.toArray) i h2
    rw [e1] at h1
    simp only [beq_iff_eq] at h1
    constructor
    · intro h; have h : (i : Int) < 0 := h; omega
    · intro h; exact absurd (h1 ▸ List.getElem_mem h2) h

section
variable {P : Program}
theorem idxX_sim {g : FuncId} {fn : Func} (hf : P.funcs[g]? = some fn) (hname : (fn.name == "runtime.NumGoroutine") = false) (hb : fn.body.isNone = true) (hn : Extern.findNext fn = none)
    (he : Extern.find fn = some Extern.BytealgIndexByte.indexByte) : CSim P (idxX g) := by
  rintro f args H K ⟨rfl, t, b, rfl, hk⟩
  refine .inr ⟨fun fn' h' => by rw [hf] at h'; injection h' with h'; subst h'; exact hb, fun R w args' hS hA => ?_⟩
  obtain ⟨l⟩ := args'
  cases hA with
  | cons hs hr =>
    cases hr with
    | cons hs2 hr =>
      cases hr
      rename_i u v
      have eu : u = strV t := by unfold strV at hs ⊢; cases hs; rfl
      have ev : v = .int .u8 (b.toNat : Nat) := by cases hs2; rfl
      subst eu
      subst ev
      have hbb : ((b.toNat : Nat) : Int).toNat.toUInt8 = b := by simp
      have key := run_indexByte_string (P := P) ⟨t.toArray⟩ ((b.toNat : Nat) : Int) w
      rw [hbb] at key
      refine ⟨.int .i64 (firstIdx ⟨t.toArray⟩ b), w, ?_, .int .i64 (firstIdx ⟨t.toArray⟩ b), _, R, H, rfl, hk _ (firstIdx_neg t b), .int _ _, hS, Ext.refl _ _ _⟩
      rw [run_callFunc_extern hf hname hb hn he]
      unfold strV
      rw [key]
      rfl
end
end Go.Proofs.YtfegliplajdgmaaI
