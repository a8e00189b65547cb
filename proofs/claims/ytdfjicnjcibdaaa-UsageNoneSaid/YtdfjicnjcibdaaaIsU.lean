/- errors.Is by its contracts: nil, and a fault. -/
import Derived.Test.YtdfjicnjcibdaaaChecked
import Derived.WalkKit
import Derived.LaidEql
import Derived.Stop.Asserts
import Derived.RowKitTokens
namespace Go.Proofs.YtdfjicnjcibdaaaU
set_option linter.unusedSimpArgs false
set_option linter.unusedVariables false
open Go Go.RowKit Go.Extern.Stop Go.Stop Go.Extern

theorem callTypeOf (v : Value) (w : World) : (callFunc 40 #[.iface 68 v]).run Try.prog w = .ok (.value (.iface 79 (.agg #[.pointer (some ⟨0, 68, none⟩)]))) w := by kernel_rfl
theorem callComparable (w : World) : (callFunc 66 #[.agg #[.pointer (some ⟨0, 68, none⟩)]]).run Try.prog w = .ok (.value (.bool true)) w := by kernel_rfl
theorem isMethodComparable (v : Value) (w : World) : (Go.method 223 79 v "Comparable").run Try.prog w = .ok (66, v) w := by kernel_rfl
theorem isMethodIs (v : Value) (w : World) : (Go.method 223 68 v "Is").run Try.prog w = .ok (62, v) w := by kernel_rfl
theorem hasIs (v : Value) (xT : TypeId) (w : World) : (Instr.typeAssert (.iface 68 v) xT 81 true).run Try.prog w = .ok (.tuple #[.iface 68 v, .bool true]) w := run_typeAssert_hasB Try.underlying81 (by kernel_rfl) v xT w
theorem eql1 (w : World) : (binOp .eql 61 (.iface 68 (.agg #[.int .i64 1])) (.iface 68 (.agg #[.int .i64 0]))).run Try.prog w = .ok (.bool false) w := by kernel_rfl

theorem eql2 (w : World) : (binOp .eql 61 (.iface 68 (.agg #[.int .i64 2])) (.iface 68 (.agg #[.int .i64 0]))).run Try.prog w = .ok (.bool false) w := by kernel_rfl
theorem eql6 (w : World) : (binOp .eql 61 (.iface 68 (.agg #[.int .i64 6])) (.iface 68 (.agg #[.int .i64 0]))).run Try.prog w = .ok (.bool false) w := by kernel_rfl
theorem eql7 (w : World) : (binOp .eql 61 (.iface 68 (.agg #[.int .i64 7])) (.iface 68 (.agg #[.int .i64 0]))).run Try.prog w = .ok (.bool false) w := by kernel_rfl
theorem eqlE {e : Int} (he : e = 1 ∨ e = 2 ∨ e = 6 ∨ e = 7) (w : World) : (binOp .eql 61 (.iface 68 (.agg #[.int .i64 e])) (.iface 68 (.agg #[.int .i64 0]))).run Try.prog w = .ok (.bool false) w := by
  rcases he with rfl | rfl | rfl | rfl
  · exact eql1 w
  · exact eql2 w
  · exact eql6 w
  · exact eql7 w

/-- errors.Is(nil, x). -/
theorem is_nil (v : Value) (w : World) : Calls Try.prog 36 #[.nilIface, .iface 68 v] w fun e w' => e = .returned (.bool false) ∧ w' = w := by
  have hn := run_eql_iface_nil_left (P := Try.prog) w 68 v Try.underlying61
  go_enter Try.func36, Try.ntmps36
  go_wp2
  go_ret
  exact ⟨rfl, rfl⟩

theorem assertF (v : Value) (w : World) : (Instr.typeAssert (.iface 68 v) 61 68 true).run Try.prog w = .ok (.tuple #[v, .bool true]) w := by kernel_rfl

set_option maxRecDepth 20000 in
/-- errors.Is of a fault. -/
theorem is_fault {e : Int} (he : e = 1 ∨ e = 2 ∨ e = 6 ∨ e = 7) (w : World) :
    Calls Try.prog 36 #[.iface 68 (.agg #[.int .i64 e]), .iface 68 (.agg #[.int .i64 0])] w fun r w' => r = .returned (.bool true) ∧ ∃ a b, w' = (w.alloc a).alloc b := by
  have h8 := callTypeOf
  have h32 := callComparable
  have mR := isMethodComparable
  have nE := hasIs
  have mI := isMethodIs
  have heq := eqlE he w
  have hAF := assertF
  go_enter Try.func36, Try.ntmps36
  go_wp2
  refine wp_loop_rounds 1 ?_
  rw [rounds_succ]
  go_wp2
  go_ret
  exact ⟨rfl, _, _, rfl⟩
theorem is_enter (args : Array Value) (w : World) : (callFunc 36 args).run Try.prog w = .ok (.enter 36 args) w := by kernel_rfl

end Go.Proofs.YtdfjicnjcibdaaaU
