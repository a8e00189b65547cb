/- PRINTED by gen.py (this session's own): the intermediate form of some functions, and a context's having them. -/
import Derived.Test.YtmdkkhnenciknaaIdealY
namespace Go.Proofs.YtmdkkhnenciknaaI
set_option linter.unusedSimpArgs false
set_option linter.unusedVariables false
open Go

/-- hurdle/hurdleref23.At -/
abbrev n_hurdleref23_At : Nat := 117
/-- hurdle/hurdleref23.Apart -/
abbrev n_hurdleref23_Apart : Nat := 115
/-- hurdle/hurdleref23.Group -/
abbrev n_hurdleref23_Group : Nat := 118
/-- hurdle/hurdleref23.At -/
def c_hurdleref23_At (F : Nat → FuncId) (Ty : Nat → TypeId) : IFunc := ⟨19, [.tmp 4],
 .seq (.ops [⟨some 4, .move (.const (.int .i64 0)), none⟩])
 (.seq (.seq (.ops [⟨some 5, .move (.const (.int .i64 0)), none⟩])
 (.block 0 (.loop (.seq (.seq (.ops [⟨some 6, .move (.tmp 5), none⟩,
 ⟨some 7, .move (.tmp 0), none⟩,
 ⟨some 8, .lenSl (.tmp 7), none⟩,
 ⟨some 9, .bin .lss (.tmp 6) (.tmp 8), none⟩])
 (.cond (.tmp 9)
 (.skip)
 (.exit 0)))
 (.seq (.block 1 (.seq (.ops [⟨some 12, .move (.tmp 0), none⟩,
 ⟨some 13, .move (.tmp 5), none⟩,
 ⟨some 14, .idxSl 1 (.tmp 12) (.tmp 13), none⟩,
 ⟨some 15, .load1 (.tmp 14), none⟩,
 ⟨some 16, .move (.tmp 1), none⟩,
 ⟨some 17, .bin .eql (.tmp 15) (.tmp 16), none⟩])
 (.cond (.tmp 17)
 (.seq (.ops [⟨some 18, .move (.tmp 5), none⟩,
 ⟨some 4, .move (.tmp 18), none⟩])
 (.ret))
 (.skip))))
 (.ops [⟨some 10, .move (.tmp 5), none⟩,
 ⟨some 11, .bin .add (.tmp 10) (.const (.int .i64 1)), none⟩,
 ⟨some 5, .move (.tmp 11), none⟩]))))))
 (.seq (.ops [⟨some 4, .move (.const (.int .i64 (-1))), none⟩])
 (.ret)))⟩
/-- hurdle/hurdleref23.Apart -/
def c_hurdleref23_Apart (F : Nat → FuncId) (Ty : Nat → TypeId) : IFunc := ⟨33, [.tmp 2],
 .seq (.ops [⟨some 2, .move (.const (.bool false)), none⟩])
 (.seq (.seq (.ops [⟨some 3, .move (.const (.int .i64 0)), none⟩])
 (.block 0 (.loop (.seq (.seq (.ops [⟨some 4, .move (.tmp 3), none⟩,
 ⟨some 5, .move (.tmp 0), none⟩,
 ⟨some 6, .lenSl (.tmp 5), none⟩,
 ⟨some 7, .bin .lss (.tmp 4) (.tmp 6), none⟩])
 (.cond (.tmp 7)
 (.skip)
 (.exit 0)))
 (.seq (.block 1 (.seq (.draw [(⟨some 10, .move (.tmp 0), none⟩, []),
 (⟨some 11, .move (.tmp 3), none⟩, []),
 (⟨some 12, .idxSl 1 (.tmp 10) (.tmp 11), none⟩, []),
 (⟨some 13, .load1 (.tmp 12), none⟩, []),
 (⟨some 14, .bin .lss (.tmp 13) (.const (.int .i64 0)), none⟩, []),
 (⟨some 15, .move (.tmp 14), none⟩, []),
 (⟨some 16, .move (.tmp 0), some (15, false)⟩, []),
 (⟨some 17, .move (.tmp 3), some (15, false)⟩, []),
 (⟨some 18, .idxSl 1 (.tmp 16) (.tmp 17), some (15, false)⟩, []),
 (⟨some 19, .load1 (.tmp 18), some (15, false)⟩, []),
 (⟨some 20, .bin .gtr (.tmp 19) (.const (.int .i64 63)), some (15, false)⟩, []),
 (⟨some 21, .pick (.tmp 15) (.const (.bool true)) (.tmp 20), none⟩, []),
 (⟨some 22, .move (.tmp 21), none⟩, []),
 (⟨some 23, .move (.tmp 0), some (22, false)⟩, []),
 (⟨some 24, .move (.tmp 3), some (22, false)⟩, []),
 (⟨some 25, .sliceSl 1 (.tmp 23) none (some (.tmp 24)) none, some (22, false)⟩, []),
 (⟨some 26, .move (.tmp 0), some (22, false)⟩, []),
 (⟨some 27, .move (.tmp 3), some (22, false)⟩, []),
 (⟨some 28, .idxSl 1 (.tmp 26) (.tmp 27), some (22, false)⟩, []),
 (⟨some 29, .load1 (.tmp 28), some (22, false)⟩, []),
 (⟨some 30, .call (F 117) [.tmp 25, .tmp 29], some (22, false)⟩, []),
 (⟨some 31, .bin .geq (.tmp 30) (.const (.int .i64 0)), some (22, false)⟩, []),
 (⟨some 32, .pick (.tmp 22) (.const (.bool true)) (.tmp 31), none⟩, [])])
 (.cond (.tmp 32)
 (.seq (.ops [⟨some 2, .move (.const (.bool false)), none⟩])
 (.ret))
 (.skip))))
 (.ops [⟨some 8, .move (.tmp 3), none⟩,
 ⟨some 9, .bin .add (.tmp 8) (.const (.int .i64 1)), none⟩,
 ⟨some 3, .move (.tmp 9), none⟩]))))))
 (.seq (.ops [⟨some 2, .move (.const (.bool true)), none⟩])
 (.ret)))⟩
/-- hurdle/hurdleref23.Group -/
def c_hurdleref23_Group (F : Nat → FuncId) (Ty : Nat → TypeId) : IFunc := ⟨15, [.tmp 2],
 .seq (.ops [⟨some 2, .move (.const (.bool false)), none⟩])
 (.seq (.ops [⟨some 3, .move (.tmp 0), none⟩,
 ⟨some 4, .lenSl (.tmp 3), none⟩,
 ⟨some 5, .bin .geq (.tmp 4) (.const (.int .i64 2)), none⟩,
 ⟨some 6, .move (.tmp 5), none⟩,
 ⟨some 7, .move (.tmp 0), some (6, true)⟩,
 ⟨some 8, .lenSl (.tmp 7), some (6, true)⟩,
 ⟨some 9, .bin .leq (.tmp 8) (.const (.int .i64 8)), some (6, true)⟩,
 ⟨some 10, .pick (.tmp 6) (.tmp 9) (.const (.bool false)), none⟩,
 ⟨some 11, .move (.tmp 10), none⟩,
 ⟨some 12, .move (.tmp 0), some (11, true)⟩,
 ⟨some 13, .call (F 115) [.tmp 12], some (11, true)⟩,
 ⟨some 14, .pick (.tmp 11) (.tmp 13) (.const (.bool false)), none⟩,
 ⟨some 2, .move (.tmp 14), none⟩])
 (.ret))⟩
/-- A context has these functions. -/
structure HasRef23 (c : Ctx) : Prop where
 hurdleref23_At : c.IP (c.F 117) = some (c_hurdleref23_At c.F c.Ty)
 hurdleref23_Apart : c.IP (c.F 115) = some (c_hurdleref23_Apart c.F c.Ty)
 hurdleref23_Group : c.IP (c.F 118) = some (c_hurdleref23_Group c.F c.Ty)

end Go.Proofs.YtmdkkhnenciknaaI
