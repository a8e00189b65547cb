/- errors.Is by its contracts: nil, and a fault. -/
import Derived.Test.YtndndcdblfejnaaGreatRChecked
import Derived.WalkKit
import Derived.LaidEql
import Derived.Stop.Asserts
import Derived.RowKitTokens
namespace Go.Proofs.YtndndcdblfejnaaGreatRU
set_option linter.unusedSimpArgs false
set_option linter.unusedVariables false
open Go Go.RowKit Go.Extern.Stop Go.Stop Go.Extern

theorem callTypeOf (v : Value) (w : World) : (callFunc 124 #[.iface 193 v]).run Tryz.prog w = .ok (.value (.iface 206 (.agg #[.pointer (some ⟨0, 193, none⟩)]))) w := by kernel_rfl
theorem callComparable (w : World) : (callFunc 156 #[.agg #[.pointer (some ⟨0, 193, none⟩)]]).run Tryz.prog w = .ok (.value (.bool true)) w := by kernel_rfl
theorem isMethodComparable (v : Value) (w : World) : (Go.method 353 206 v "Comparable").run Tryz.prog w = .ok (156, v) w := by kernel_rfl
theorem isMethodIs (v : Value) (w : World) : (Go.method 353 193 v "Is").run Tryz.prog w = .ok (152, v) w := by kernel_rfl
theorem hasIs (v : Value) (xT : TypeId) (w : World) : (Instr.typeAssert (.iface 193 v) xT 208 true).run Tryz.prog w = .ok (.tuple #[.iface 193 v, .bool true]) w := run_typeAssert_hasB Tryz.underlying208 (by kernel_rfl) v xT w
theorem eql1 (w : World) : (binOp .eql 178 (.iface 193 (.agg #[.int .i64 1])) (.iface 193 (.agg #[.int .i64 0]))).run Tryz.prog w = .ok (.bool false) w := by kernel_rfl

theorem eql2 (w : World) : (binOp .eql 178 (.iface 193 (.agg #[.int .i64 2])) (.iface 193 (.agg #[.int .i64 0]))).run Tryz.prog w = .ok (.bool false) w := by kernel_rfl
theorem eql6 (w : World) : (binOp .eql 178 (.iface 193 (.agg #[.int .i64 6])) (.iface 193 (.agg #[.int .i64 0]))).run Tryz.prog w = .ok (.bool false) w := by kernel_rfl
theorem eql7 (w : World) : (binOp .eql 178 (.iface 193 (.agg #[.int .i64 7])) (.iface 193 (.agg #[.int .i64 0]))).run Tryz.prog w = .ok (.bool false) w := by kernel_rfl
theorem eqlE {e : Int} (he : e = 1 ∨ e = 2 ∨ e = 6 ∨ e = 7) (w : World) : (binOp .eql 178 (.iface 193 (.agg #[.int .i64 e])) (.iface 193 (.agg #[.int .i64 0]))).run Tryz.prog w = .ok (.bool false) w := by
  rcases he with rfl | rfl | rfl | rfl
  · exact eql1 w
  · exact eql2 w
  · exact eql6 w
  · exact eql7 w

/-- errors.Is(nil, x). -/
theorem is_nil (v : Value) (w : World) : Calls Tryz.prog 119 #[.nilIface, .iface 193 v] w fun e w' => e = .returned (.bool false) ∧ w' = w := by
  have hn := run_eql_iface_nil_left (P := Tryz.prog) w 193 v Tryz.underlying178
  go_enter Tryz.func119, Tryz.ntmps119
  go_wp2
  go_ret
  exact ⟨rfl, rfl⟩

theorem assertF (v : Value) (w : World) : (Instr.typeAssert (.iface 193 v) 178 193 true).run Tryz.prog w = .ok (.tuple #[v, .bool true]) w := by kernel_rfl

set_option maxRecDepth 20000 in
/-- errors.Is of a fault. -/
theorem is_fault {e : Int} (he : e = 1 ∨ e = 2 ∨ e = 6 ∨ e = 7) (w : World) :
    Calls Tryz.prog 119 #[.iface 193 (.agg #[.int .i64 e]), .iface 193 (.agg #[.int .i64 0])] w fun r w' => r = .returned (.bool true) ∧ ∃ a b, w' = (w.alloc a).alloc b := by
  have h8 := callTypeOf
  have h32 := callComparable
  have mR := isMethodComparable
  have nE := hasIs
  have mI := isMethodIs
  have heq := eqlE he w
  have hAF := assertF
  go_enter Tryz.func119, Tryz.ntmps119
  go_wp2
  refine wp_loop_rounds 1 ?_
  rw [rounds_succ]
  go_wp2
  go_ret
  exact ⟨rfl, _, _, rfl⟩
theorem is_enter (args : Array Value) (w : World) : (callFunc 119 args).run Tryz.prog w = .ok (.enter 119 args) w := by kernel_rfl

end Go.Proofs.YtndndcdblfejnaaGreatRU
