/- PRINTED by gen.py (this session's own): the intermediate form of some functions, and a context's having them. -/
import Derived.Test.YtafnkmiggmfbdaaIdealY
namespace Go.Proofs.YtafnkmiggmfbdaaI
set_option linter.unusedSimpArgs false
set_option linter.unusedVariables false
open Go

/-- cmp.isNaN[int] -/
abbrev n_cmp_isNaN_int : Nat := 1
/-- cmp.Compare[int] -/
abbrev n_cmp_Compare_int : Nat := 2
/-- cmp.Or[int] -/
abbrev n_cmp_Or_int : Nat := 3
/-- hurdle/ballot.Cmp -/
abbrev n_ballot_Cmp : Nat := 4
/-- hurdle/ballot.Valid -/
abbrev n_ballot_Valid : Nat := 5
/-- cmp.isNaN[int] -/
def c_cmp_isNaN_int (F : Nat → FuncId) (Ty : Nat → TypeId) : IFunc := ⟨6, [.tmp 2],
 .seq (.ops [⟨some 2, .move (.const (.bool false)), none⟩])
 (.seq (.ops [⟨some 3, .move (.tmp 0), none⟩,
 ⟨some 4, .move (.tmp 0), none⟩,
 ⟨some 5, .bin .neq (.tmp 3) (.tmp 4), none⟩,
 ⟨some 2, .move (.tmp 5), none⟩])
 (.ret))⟩
/-- cmp.Compare[int] -/
def c_cmp_Compare_int (F : Nat → FuncId) (Ty : Nat → TypeId) : IFunc := ⟨20, [.tmp 4],
 .seq (.ops [⟨some 4, .move (.const (.int .i64 0)), none⟩])
 (.seq (.ops [⟨some 7, .move (.tmp 0), none⟩,
 ⟨some 8, .call (F 1) [.tmp 7], none⟩,
 ⟨some 5, .move (.tmp 8), none⟩])
 (.seq (.ops [⟨some 9, .move (.tmp 1), none⟩,
 ⟨some 10, .call (F 1) [.tmp 9], none⟩,
 ⟨some 6, .move (.tmp 10), none⟩])
 (.seq (.seq (.ops [⟨some 11, .move (.tmp 5), none⟩])
 (.cond (.tmp 11)
 (.seq (.seq (.ops [⟨some 12, .move (.tmp 6), none⟩])
 (.cond (.tmp 12)
 (.seq (.ops [⟨some 4, .move (.const (.int .i64 0)), none⟩])
 (.ret))
 (.skip)))
 (.seq (.ops [⟨some 4, .move (.const (.int .i64 (-1))), none⟩])
 (.ret)))
 (.skip)))
 (.seq (.seq (.ops [⟨some 13, .move (.tmp 6), none⟩])
 (.cond (.tmp 13)
 (.seq (.ops [⟨some 4, .move (.const (.int .i64 1)), none⟩])
 (.ret))
 (.skip)))
 (.seq (.seq (.ops [⟨some 14, .move (.tmp 0), none⟩,
 ⟨some 15, .move (.tmp 1), none⟩,
 ⟨some 16, .bin .lss (.tmp 14) (.tmp 15), none⟩])
 (.cond (.tmp 16)
 (.seq (.ops [⟨some 4, .move (.const (.int .i64 (-1))), none⟩])
 (.ret))
 (.skip)))
 (.seq (.seq (.ops [⟨some 17, .move (.tmp 0), none⟩,
 ⟨some 18, .move (.tmp 1), none⟩,
 ⟨some 19, .bin .gtr (.tmp 17) (.tmp 18), none⟩])
 (.cond (.tmp 19)
 (.seq (.ops [⟨some 4, .move (.const (.int .i64 1)), none⟩])
 (.ret))
 (.skip)))
 (.seq (.ops [⟨some 4, .move (.const (.int .i64 0)), none⟩])
 (.ret))))))))⟩
/-- cmp.Or[int] -/
def c_cmp_Or_int (F : Nat → FuncId) (Ty : Nat → TypeId) : IFunc := ⟨18, [.tmp 2],
 .seq (.ops [⟨some 2, .move (.const (.int .i64 0)), none⟩])
 (.seq (.ops [⟨some 3, .move (.const (.int .i64 0)), none⟩])
 (.seq (.seq (.ops [⟨some 6, .move (.tmp 0), none⟩,
 ⟨some 7, .lenSl (.tmp 6), none⟩,
 ⟨some 8, .move (.const (.int .i64 0)), none⟩])
 (.block 0 (.loop (.seq (.ops [⟨some 9, .bin .lss (.tmp 8) (.tmp 7), none⟩])
 (.seq (.cond (.tmp 9)
 (.skip)
 (.exit 0))
 (.seq (.block 1 (.seq (.ops [⟨some 10, .idxSl 1 (.tmp 6) (.tmp 8), none⟩,
 ⟨some 11, .load1 (.tmp 10), none⟩,
 ⟨some 5, .move (.tmp 11), none⟩])
 (.seq (.ops [⟨some 12, .move (.tmp 5), none⟩,
 ⟨some 13, .move (.tmp 3), none⟩,
 ⟨some 14, .bin .neq (.tmp 12) (.tmp 13), none⟩])
 (.cond (.tmp 14)
 (.seq (.ops [⟨some 15, .move (.tmp 5), none⟩,
 ⟨some 2, .move (.tmp 15), none⟩])
 (.ret))
 (.skip)))))
 (.ops [⟨some 16, .bin .add (.tmp 8) (.const (.int .i64 1)), none⟩,
 ⟨some 8, .move (.tmp 16), none⟩])))))))
 (.seq (.ops [⟨some 17, .move (.tmp 3), none⟩,
 ⟨some 2, .move (.tmp 17), none⟩])
 (.ret))))⟩
/-- hurdle/ballot.Cmp -/
def c_ballot_Cmp (F : Nat → FuncId) (Ty : Nat → TypeId) : IFunc := ⟨17, [.tmp 4],
 .seq (.ops [⟨some 2, .box (.tmp 0), none⟩,
 ⟨some 3, .box (.tmp 1), none⟩,
 ⟨some 4, .move (.const (.int .i64 0)), none⟩])
 (.seq (.draw [(⟨some 5, .fieldAddr 0 (.tmp 2), none⟩, []),
 (⟨some 6, .load1 (.tmp 5), none⟩, []),
 (⟨some 7, .fieldAddr 0 (.tmp 3), none⟩, []),
 (⟨some 8, .load1 (.tmp 7), none⟩, []),
 (⟨some 10, .fieldAddr 1 (.tmp 2), none⟩, []),
 (⟨some 11, .load1 (.tmp 10), none⟩, []),
 (⟨some 12, .fieldAddr 1 (.tmp 3), none⟩, []),
 (⟨some 13, .load1 (.tmp 12), none⟩, []),
 (⟨some 9, .call (F 2) [.tmp 6, .tmp 8], none⟩, [⟨some 11, .load1 (.tmp 10), none⟩, ⟨some 13, .load1 (.tmp 12), none⟩]),
 (⟨some 14, .call (F 2) [.tmp 11, .tmp 13], none⟩, []),
 (⟨some 15, .buildSlice 2 [.int .i64 0, .int .i64 0] [((0, 1), .tmp 9), ((1, 1), .tmp 14)], none⟩, []),
 (⟨some 16, .call (F 3) [.tmp 15], none⟩, []),
 (⟨some 4, .move (.tmp 16), none⟩, [])])
 (.ret))⟩
/-- hurdle/ballot.Valid -/
def c_ballot_Valid (F : Nat → FuncId) (Ty : Nat → TypeId) : IFunc := ⟨21, [.tmp 2],
 .seq (.ops [⟨some 1, .box (.tmp 0), none⟩,
 ⟨some 2, .move (.const (.bool false)), none⟩])
 (.seq (.ops [⟨some 3, .fieldAddr 0 (.tmp 1), none⟩,
 ⟨some 4, .load1 (.tmp 3), none⟩,
 ⟨some 5, .bin .geq (.tmp 4) (.const (.int .i64 0)), none⟩,
 ⟨some 6, .move (.tmp 5), none⟩,
 ⟨some 7, .fieldAddr 0 (.tmp 1), some (6, true)⟩,
 ⟨some 8, .load1 (.tmp 7), some (6, true)⟩,
 ⟨some 9, .bin .lss (.tmp 8) (.const (.int .i64 2147483648)), some (6, true)⟩,
 ⟨some 10, .pick (.tmp 6) (.tmp 9) (.const (.bool false)), none⟩,
 ⟨some 11, .move (.tmp 10), none⟩,
 ⟨some 12, .fieldAddr 1 (.tmp 1), some (11, true)⟩,
 ⟨some 13, .load1 (.tmp 12), some (11, true)⟩,
 ⟨some 14, .bin .geq (.tmp 13) (.const (.int .i64 0)), some (11, true)⟩,
 ⟨some 15, .pick (.tmp 11) (.tmp 14) (.const (.bool false)), none⟩,
 ⟨some 16, .move (.tmp 15), none⟩,
 ⟨some 17, .fieldAddr 1 (.tmp 1), some (16, true)⟩,
 ⟨some 18, .load1 (.tmp 17), some (16, true)⟩,
 ⟨some 19, .bin .lss (.tmp 18) (.const (.int .i64 7)), some (16, true)⟩,
 ⟨some 20, .pick (.tmp 16) (.tmp 19) (.const (.bool false)), none⟩,
 ⟨some 2, .move (.tmp 20), none⟩])
 (.ret))⟩
/-- A context has these functions. -/
structure HasBalA (c : Ctx) : Prop where
 cmp_isNaN_int : c.IP (c.F 1) = some (c_cmp_isNaN_int c.F c.Ty)
 cmp_Compare_int : c.IP (c.F 2) = some (c_cmp_Compare_int c.F c.Ty)
 cmp_Or_int : c.IP (c.F 3) = some (c_cmp_Or_int c.F c.Ty)
 ballot_Cmp : c.IP (c.F 4) = some (c_ballot_Cmp c.F c.Ty)
 ballot_Valid : c.IP (c.F 5) = some (c_ballot_Valid c.F c.Ty)

end Go.Proofs.YtafnkmiggmfbdaaI
