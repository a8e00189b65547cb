/- PRINTED by gen.py (this session's own): the intermediate form of some functions, and a context's having them. -/
import Derived.Test.YtafnkmiggmfbdaaPartBalB
namespace Go.Proofs.YtafnkmiggmfbdaaI
set_option linter.unusedSimpArgs false
set_option linter.unusedVariables false
open Go

/-- hurdle/hurdleref16.Cmp -/
abbrev n_hurdleref16_Cmp : Nat := 14
/-- hurdle/hurdleref16.Valid -/
abbrev n_hurdleref16_Valid : Nat := 15
/-- hurdle/hurdleref16.Cmp -/
def c_hurdleref16_Cmp (F : Nat → FuncId) (Ty : Nat → TypeId) : IFunc := ⟨29, [.tmp 4],
 .seq (.ops [⟨some 2, .box (.tmp 0), none⟩,
 ⟨some 3, .box (.tmp 1), none⟩,
 ⟨some 4, .move (.const (.int .i64 0)), none⟩])
 (.seq (.block 0 (.seq (.ops [⟨some 6, .fieldAddr 0 (.tmp 2), none⟩,
 ⟨some 7, .load1 (.tmp 6), none⟩,
 ⟨some 8, .fieldAddr 0 (.tmp 3), none⟩,
 ⟨some 9, .load1 (.tmp 8), none⟩,
 ⟨some 10, .bin .lss (.tmp 7) (.tmp 9), none⟩,
 ⟨some 11, .move (.tmp 10), none⟩,
 ⟨some 12, .fieldAddr 0 (.tmp 2), some (11, false)⟩,
 ⟨some 13, .load1 (.tmp 12), some (11, false)⟩,
 ⟨some 14, .fieldAddr 0 (.tmp 3), some (11, false)⟩,
 ⟨some 15, .load1 (.tmp 14), some (11, false)⟩,
 ⟨some 16, .bin .eql (.tmp 13) (.tmp 15), some (11, false)⟩,
 ⟨some 17, .move (.tmp 16), some (11, false)⟩,
 ⟨some 18, .fieldAddr 1 (.tmp 2), some (17, true)⟩,
 ⟨some 19, .load1 (.tmp 18), some (17, true)⟩,
 ⟨some 20, .fieldAddr 1 (.tmp 3), some (17, true)⟩,
 ⟨some 21, .load1 (.tmp 20), some (17, true)⟩,
 ⟨some 22, .bin .lss (.tmp 19) (.tmp 21), some (17, true)⟩,
 ⟨some 23, .pick (.tmp 17) (.tmp 22) (.const (.bool false)), some (11, false)⟩,
 ⟨some 24, .pick (.tmp 11) (.const (.bool true)) (.tmp 23), none⟩,
 ⟨some 5, .move (.tmp 24), none⟩])
 (.cond (.tmp 5)
 (.seq (.ops [⟨some 4, .move (.const (.int .i64 (-1))), none⟩])
 (.ret))
 (.seq (.ops [⟨some 26, .loadN 2 (.tmp 2), none⟩,
 ⟨some 27, .loadN 2 (.tmp 3), none⟩,
 ⟨some 28, .eqv false [.i .i64, .i .i64] (.tmp 26) (.tmp 27), none⟩,
 ⟨some 25, .move (.tmp 28), none⟩])
 (.cond (.tmp 25)
 (.seq (.ops [⟨some 4, .move (.const (.int .i64 0)), none⟩])
 (.ret))
 (.skip))))))
 (.seq (.ops [⟨some 4, .move (.const (.int .i64 1)), none⟩])
 (.ret)))⟩
/-- hurdle/hurdleref16.Valid -/
def c_hurdleref16_Valid (F : Nat → FuncId) (Ty : Nat → TypeId) : IFunc := ⟨21, [.tmp 2],
 .seq (.ops [⟨some 1, .box (.tmp 0), none⟩,
 ⟨some 2, .move (.const (.bool false)), none⟩])
 (.seq (.ops [⟨some 3, .fieldAddr 0 (.tmp 1), none⟩,
 ⟨some 4, .load1 (.tmp 3), none⟩,
 ⟨some 5, .bin .geq (.tmp 4) (.const (.int .i64 0)), none⟩,
 ⟨some 6, .move (.tmp 5), none⟩,
 ⟨some 7, .fieldAddr 0 (.tmp 1), some (6, true)⟩,
 ⟨some 8, .load1 (.tmp 7), some (6, true)⟩,
 ⟨some 9, .bin .lss (.tmp 8) (.const (.int .i64 2147483648)), some (6, true)⟩,
 ⟨some 10, .pick (.tmp 6) (.tmp 9) (.const (.bool false)), none⟩,
 ⟨some 11, .move (.tmp 10), none⟩,
 ⟨some 12, .fieldAddr 1 (.tmp 1), some (11, true)⟩,
 ⟨some 13, .load1 (.tmp 12), some (11, true)⟩,
 ⟨some 14, .bin .geq (.tmp 13) (.const (.int .i64 0)), some (11, true)⟩,
 ⟨some 15, .pick (.tmp 11) (.tmp 14) (.const (.bool false)), none⟩,
 ⟨some 16, .move (.tmp 15), none⟩,
 ⟨some 17, .fieldAddr 1 (.tmp 1), some (16, true)⟩,
 ⟨some 18, .load1 (.tmp 17), some (16, true)⟩,
 ⟨some 19, .bin .lss (.tmp 18) (.const (.int .i64 7)), some (16, true)⟩,
 ⟨some 20, .pick (.tmp 16) (.tmp 19) (.const (.bool false)), none⟩,
 ⟨some 2, .move (.tmp 20), none⟩])
 (.ret))⟩
/-- A context has these functions. -/
structure HasBalC (c : Ctx) : Prop where
 hurdleref16_Cmp : c.IP (c.F 14) = some (c_hurdleref16_Cmp c.F c.Ty)
 hurdleref16_Valid : c.IP (c.F 15) = some (c_hurdleref16_Valid c.F c.Ty)

end Go.Proofs.YtafnkmiggmfbdaaI
