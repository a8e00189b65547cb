/- Votes. -/
import Derived.Test.YtafnkmiggmfbdaaMaps
namespace Go.Proofs.YtafnkmiggmfbdaaI
set_option linter.unusedSimpArgs false
set_option linter.unusedVariables false
open Go

structure VoteD where
  slot : Int
  a : Int
  n : Int
  val : ByteArray
  deriving DecidableEq
def rowV (v : VoteD) : List Value := [.int .i64 v.slot, .int .i64 v.a, .int .i64 v.n, .string v.val]
def vV (v : VoteD) : Value := .agg #[.int .i64 v.slot, .int .i64 v.a, .int .i64 v.n, .string v.val]
def kI (n : Int) : Value := .int .i64 n
def kP (p : Int × Int) : Value := .agg #[.int .i64 p.1, .int .i64 p.2]
def gS (s : ByteArray) : Value := .string s
theorem one1_gS (s : ByteArray) : one1 (gS s) = true := rfl

theorem keyOf_int {P : Program} {t : TypeId} {k : IntKind} (hu : P.underlying t = some (.int k)) : KeyOf P t kI := by
  refine ⟨fun a b => ?_, fun e a => ?_, fun _ => rfl, fun a => ?_⟩
  · refine sameNow_eq hu ?_
    simp only [kI, Instr.sameNow, if_true]
    by_cases h : a = b <;> simp [h]
  · rw [show (10000 : Nat) = 9999 + 1 from rfl]
    unfold Instr.checkKey
    rw [pureRun_bind', pureRun_under hu]
    rfl
  · simp [kI, Instr.sameBits]
theorem keyOf_pair {P : Program} {t : TypeId} (hk : kindsT P 20 t = some [.i .i64, .i .i64]) (ha : aggT P t = some true) (hc : ∀ e a b, (pureRun P (Instr.checkKey e 10000 t (.agg #[.int .i64 a, .int .i64 b]))).isSome = true) : KeyOf P t kP := by
  refine ⟨fun a b => ?_, fun e a => hc e a.1 a.2, fun _ => rfl, fun a => ?_⟩
  · have h := (eq_kinds 20 t _ hk Op.maxDepth (by decide) [.int .i64 a.1, .int .i64 a.2] [.int .i64 b.1, .int .i64 b.2] rfl rfl).1 ha
    refine h.trans ?_
    simp only [eqL, eq1, Bool.and_true]
    obtain ⟨x, y⟩ := a
    obtain ⟨z, w⟩ := b
    simp only [Prod.mk.injEq]
    by_cases h1 : x = z <;> by_cases h2 : y = w <;> simp [h1, h2]
  · simp only [kP]
    rw [show (10000 : Nat) = 9999 + 1 from rfl]
    unfold Instr.sameBits
    simp [Instr.sameBits]

end Go.Proofs.YtafnkmiggmfbdaaI
