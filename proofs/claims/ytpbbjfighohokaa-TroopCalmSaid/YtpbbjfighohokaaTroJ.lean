/- PRINTED by gen.py (this session's own): the intermediate form of some functions, and a context's having them. / PRINTED by gen.py (this session's own): the intermediate form of some functions, and a context's having them. / Nodes, and notes under way: all arrives; none. / Texts compared one by one. / Nodes, and notes under way: the chapter's example; none. -/
import Derived.Test.YtpbbjfighohokaaTroD
import Derived.Test.YtpbbjfighohokaaTroH
import Derived.Test.YtpbbjfighohokaaVotes
namespace Go.Proofs.YtpbbjfighohokaaI
set_option linter.unusedSimpArgs false
set_option linter.unusedVariables false
open Go

/-- hurdle/hurdleref01.Texts -/
abbrev n_hurdleref01_Texts : Nat := 70
/-- hurdle/hurdleref01.Texts -/
def c_hurdleref01_Texts (F : Nat → FuncId) (Ty : Nat → TypeId) : IFunc := ⟨26, [.tmp 4],
 .seq (.ops [⟨some 4, .move (.const (.bool false)), none⟩])
 (.seq (.seq (.ops [⟨some 6, .move (.tmp 0), none⟩,
 ⟨some 7, .lenSl (.tmp 6), none⟩,
 ⟨some 8, .move (.tmp 1), none⟩,
 ⟨some 9, .lenSl (.tmp 8), none⟩,
 ⟨some 10, .bin .neq (.tmp 7) (.tmp 9), none⟩])
 (.cond (.tmp 10)
 (.seq (.ops [⟨some 4, .move (.const (.bool false)), none⟩])
 (.ret))
 (.skip)))
 (.seq (.seq (.ops [⟨some 5, .move (.const (.int .i64 0)), none⟩])
 (.block 0 (.loop (.seq (.seq (.ops [⟨some 11, .move (.tmp 5), none⟩,
 ⟨some 12, .move (.tmp 0), none⟩,
 ⟨some 13, .lenSl (.tmp 12), none⟩,
 ⟨some 14, .bin .lss (.tmp 11) (.tmp 13), none⟩])
 (.cond (.tmp 14)
 (.skip)
 (.exit 0)))
 (.seq (.block 1 (.seq (.draw [(⟨some 17, .move (.tmp 0), none⟩, []),
 (⟨some 18, .move (.tmp 5), none⟩, []),
 (⟨some 19, .idxSl 1 (.tmp 17) (.tmp 18), none⟩, []),
 (⟨some 20, .load1 (.tmp 19), none⟩, []),
 (⟨some 21, .move (.tmp 1), none⟩, []),
 (⟨some 22, .move (.tmp 5), none⟩, []),
 (⟨some 23, .idxSl 1 (.tmp 21) (.tmp 22), none⟩, []),
 (⟨some 24, .load1 (.tmp 23), none⟩, []),
 (⟨some 25, .bin .neq (.tmp 20) (.tmp 24), none⟩, [])])
 (.cond (.tmp 25)
 (.seq (.ops [⟨some 4, .move (.const (.bool false)), none⟩])
 (.ret))
 (.skip))))
 (.ops [⟨some 15, .move (.tmp 5), none⟩,
 ⟨some 16, .bin .add (.tmp 15) (.const (.int .i64 1)), none⟩,
 ⟨some 5, .move (.tmp 16), none⟩]))))))
 (.seq (.ops [⟨some 4, .move (.const (.bool true)), none⟩])
 (.ret))))⟩
/-- A context has these functions. -/
structure HasRef22 (c : Ctx) : Prop where
 hurdleref01_Texts : c.IP (c.F 70) = some (c_hurdleref01_Texts c.F c.Ty)

end Go.Proofs.YtpbbjfighohokaaI
namespace Go.Proofs.YtpbbjfighohokaaI
set_option linter.unusedSimpArgs false
set_option linter.unusedVariables false
open Go

/-- hurdle/hurdlelaw22.TroopCalm -/
abbrev n_hurdlelaw22_TroopCalm : Nat := 328
/-- hurdle/hurdlelaw22.TroopAgrees -/
abbrev n_hurdlelaw22_TroopAgrees : Nat := 329
/-- hurdle/hurdlelaw22.TroopValid -/
abbrev n_hurdlelaw22_TroopValid : Nat := 330
/-- hurdle/hurdlelaw22.TroopNone -/
abbrev n_hurdlelaw22_TroopNone : Nat := 331
/-- hurdle/hurdlelaw22.awake -/
abbrev n_hurdlelaw22_awake : Nat := 332
/-- hurdle/hurdlelaw22.deliver -/
abbrev n_hurdlelaw22_deliver : Nat := 333
/-- hurdle/hurdlelaw22.few -/
abbrev n_hurdlelaw22_few : Nat := 334
/-- hurdle/hurdlelaw22.do -/
abbrev n_hurdlelaw22_do : Nat := 335
/-- hurdle/hurdlelaw22.TroopCalm -/
def c_hurdlelaw22_TroopCalm (F : Nat → FuncId) (Ty : Nat → TypeId) : IFunc := ⟨75, [.tmp 6],
 .seq (.ops [⟨some 6, .move (.const (.bool false)), none⟩])
 (.seq (.seq (.ops [⟨some 10, .move (.tmp 0), none⟩,
 ⟨some 11, .call (F 18) [.tmp 10], none⟩,
 ⟨some 12, .bin .eql (.tmp 11) (.const (.int .i64 0)), none⟩,
 ⟨some 13, .move (.tmp 12), none⟩,
 ⟨some 14, .move (.tmp 1), some (13, false)⟩,
 ⟨some 15, .bin .lss (.tmp 14) (.const (.int .i64 0)), some (13, false)⟩,
 ⟨some 16, .pick (.tmp 13) (.const (.bool true)) (.tmp 15), none⟩,
 ⟨some 17, .move (.tmp 16), none⟩,
 ⟨some 18, .move (.tmp 1), some (17, false)⟩,
 ⟨some 19, .move (.tmp 0), some (17, false)⟩,
 ⟨some 20, .bin .geq (.tmp 18) (.tmp 19), some (17, false)⟩,
 ⟨some 21, .pick (.tmp 17) (.const (.bool true)) (.tmp 20), none⟩,
 ⟨some 22, .move (.tmp 21), none⟩,
 ⟨some 23, .move (.tmp 2), some (22, false)⟩,
 ⟨some 24, .lenSl (.tmp 23), some (22, false)⟩,
 ⟨some 25, .bin .gtr (.tmp 24) (.const (.int .i64 8)), some (22, false)⟩,
 ⟨some 26, .pick (.tmp 22) (.const (.bool true)) (.tmp 25), none⟩])
 (.cond (.tmp 26)
 (.seq (.ops [⟨some 27, .call (F 332) [], none⟩,
 ⟨some 6, .move (.tmp 27), none⟩])
 (.ret))
 (.skip)))
 (.seq (.ops [⟨some 28, .move (.tmp 0), none⟩,
 ⟨some 29, .call (F 311) [.tmp 28], none⟩,
 ⟨some 7, .move (.tmp 29), none⟩])
 (.seq (.ops [⟨some 30, .move (.tmp 7), none⟩,
 ⟨some 31, .move (.tmp 1), none⟩,
 ⟨some 32, .call (F 313) [.tmp 30, .tmp 31], none⟩])
 (.seq (.ops [⟨some 33, .move (.tmp 7), none⟩,
 ⟨some 34, .call (F 333) [.tmp 33], none⟩])
 (.seq (.seq (.ops [⟨some 8, .move (.const (.int .i64 0)), none⟩])
 (.block 0 (.loop (.seq (.seq (.ops [⟨some 35, .move (.tmp 8), none⟩,
 ⟨some 36, .move (.tmp 2), none⟩,
 ⟨some 37, .lenSl (.tmp 36), none⟩,
 ⟨some 38, .bin .lss (.tmp 35) (.tmp 37), none⟩])
 (.cond (.tmp 38)
 (.skip)
 (.exit 0)))
 (.seq (.block 1 (.seq (.seq (.ops [⟨some 41, .move (.tmp 2), none⟩,
 ⟨some 42, .move (.tmp 8), none⟩,
 ⟨some 43, .idxSl 1 (.tmp 41) (.tmp 42), none⟩,
 ⟨some 44, .load1 (.tmp 43), none⟩,
 ⟨some 45, .strLen (.tmp 44), none⟩,
 ⟨some 46, .bin .gtr (.tmp 45) (.const (.int .i64 100)), none⟩])
 (.cond (.tmp 46)
 (.seq (.ops [⟨some 47, .call (F 332) [], none⟩,
 ⟨some 6, .move (.tmp 47), none⟩])
 (.ret))
 (.skip)))
 (.seq (.seq (.ops [⟨some 48, .move (.tmp 7), none⟩,
 ⟨some 49, .move (.tmp 1), none⟩,
 ⟨some 50, .move (.tmp 2), none⟩,
 ⟨some 51, .move (.tmp 8), none⟩,
 ⟨some 52, .idxSl 1 (.tmp 50) (.tmp 51), none⟩,
 ⟨some 53, .load1 (.tmp 52), none⟩,
 ⟨some 54, .call (F 314) [.tmp 48, .tmp 49, .tmp 53], none⟩,
 ⟨some 55, .bin .neq (.tmp 54) (.const (.int .i64 0)), none⟩])
 (.cond (.tmp 55)
 (.seq (.ops [⟨some 6, .move (.const (.bool false)), none⟩])
 (.ret))
 (.skip)))
 (.ops [⟨some 56, .move (.tmp 7), none⟩,
 ⟨some 57, .call (F 333) [.tmp 56], none⟩]))))
 (.ops [⟨some 39, .move (.tmp 8), none⟩,
 ⟨some 40, .bin .add (.tmp 39) (.const (.int .i64 1)), none⟩,
 ⟨some 8, .move (.tmp 40), none⟩]))))))
 (.seq (.seq (.ops [⟨some 9, .move (.const (.int .i64 0)), none⟩])
 (.block 2 (.loop (.seq (.seq (.ops [⟨some 58, .move (.tmp 9), none⟩,
 ⟨some 59, .move (.tmp 0), none⟩,
 ⟨some 60, .bin .lss (.tmp 58) (.tmp 59), none⟩])
 (.cond (.tmp 60)
 (.skip)
 (.exit 2)))
 (.seq (.block 3 (.seq (.ops [⟨some 63, .move (.tmp 7), none⟩,
 ⟨some 64, .move (.tmp 9), none⟩,
 ⟨some 65, .call (F 320) [.tmp 63, .tmp 64], none⟩,
 ⟨some 66, .move (.tmp 2), none⟩,
 ⟨some 67, .call (F 70) [.tmp 65, .tmp 66], none⟩,
 ⟨some 68, .un .not (.tmp 67), none⟩])
 (.cond (.tmp 68)
 (.seq (.ops [⟨some 6, .move (.const (.bool false)), none⟩])
 (.ret))
 (.skip))))
 (.ops [⟨some 61, .move (.tmp 9), none⟩,
 ⟨some 62, .bin .add (.tmp 61) (.const (.int .i64 1)), none⟩,
 ⟨some 9, .move (.tmp 62), none⟩]))))))
 (.seq (.ops [⟨some 69, .move (.tmp 7), none⟩,
 ⟨some 70, .call (F 321) [.tmp 69], none⟩,
 ⟨some 71, .bin .eql (.tmp 70) (.const (.int .i64 0)), none⟩,
 ⟨some 72, .move (.tmp 71), none⟩,
 ⟨some 73, .call (F 332) [], some (72, true)⟩,
 ⟨some 74, .pick (.tmp 72) (.tmp 73) (.const (.bool false)), none⟩,
 ⟨some 6, .move (.tmp 74), none⟩])
 (.ret))))))))⟩
/-- hurdle/hurdlelaw22.TroopAgrees -/
def c_hurdlelaw22_TroopAgrees (F : Nat → FuncId) (Ty : Nat → TypeId) : IFunc := ⟨62, [.tmp 4],
 .seq (.ops [⟨some 4, .move (.const (.bool false)), none⟩])
 (.seq (.seq (.ops [⟨some 11, .move (.tmp 1), none⟩,
 ⟨some 12, .call (F 334) [.tmp 11], none⟩,
 ⟨some 13, .un .not (.tmp 12), none⟩,
 ⟨some 14, .move (.tmp 13), none⟩,
 ⟨some 15, .move (.tmp 0), some (14, false)⟩,
 ⟨some 16, .call (F 18) [.tmp 15], some (14, false)⟩,
 ⟨some 17, .bin .eql (.tmp 16) (.const (.int .i64 0)), some (14, false)⟩,
 ⟨some 18, .pick (.tmp 14) (.const (.bool true)) (.tmp 17), none⟩])
 (.cond (.tmp 18)
 (.seq (.ops [⟨some 19, .call (F 332) [], none⟩,
 ⟨some 4, .move (.tmp 19), none⟩])
 (.ret))
 (.skip)))
 (.seq (.ops [⟨some 20, .move (.tmp 0), none⟩,
 ⟨some 21, .call (F 311) [.tmp 20], none⟩,
 ⟨some 5, .move (.tmp 21), none⟩])
 (.seq (.ops [⟨some 6, .move (.const (.slice none 0 0)), none⟩])
 (.seq (.seq (.ops [⟨some 7, .move (.const (.int .i64 0)), none⟩])
 (.block 0 (.loop (.seq (.seq (.ops [⟨some 22, .move (.tmp 7), none⟩,
 ⟨some 23, .move (.tmp 1), none⟩,
 ⟨some 24, .lenSl (.tmp 23), none⟩,
 ⟨some 25, .bin .lss (.tmp 22) (.tmp 24), none⟩])
 (.cond (.tmp 25)
 (.skip)
 (.exit 0)))
 (.seq (.block 1 (.seq (.ops [⟨some 28, .move (.tmp 5), none⟩,
 ⟨some 29, .move (.tmp 1), none⟩,
 ⟨some 30, .move (.tmp 7), none⟩,
 ⟨some 31, .idxSl 4 (.tmp 29) (.tmp 30), none⟩,
 ⟨some 32, .loadN 4 (.tmp 31), none⟩,
 ⟨some 33, .call (F 335) [.tmp 28, .tmp 32], none⟩])
 (.seq (.ops [⟨some 8, .move (.const (.int .i64 0)), none⟩])
 (.block 2 (.loop (.seq (.seq (.ops [⟨some 34, .move (.tmp 8), none⟩,
 ⟨some 35, .move (.tmp 0), none⟩,
 ⟨some 36, .bin .lss (.tmp 34) (.tmp 35), none⟩])
 (.cond (.tmp 36)
 (.skip)
 (.exit 2)))
 (.seq (.block 3 (.seq (.ops [⟨some 39, .move (.tmp 5), none⟩,
 ⟨some 40, .move (.tmp 8), none⟩,
 ⟨some 41, .call (F 320) [.tmp 39, .tmp 40], none⟩,
 ⟨some 9, .move (.tmp 41), none⟩])
 (.seq (.ops [⟨some 42, .move (.tmp 9), none⟩,
 ⟨some 43, .lenSl (.tmp 42), none⟩,
 ⟨some 44, .move (.tmp 6), none⟩,
 ⟨some 45, .lenSl (.tmp 44), none⟩,
 ⟨some 46, .mxn false (.tmp 43) (.tmp 45), none⟩,
 ⟨some 10, .move (.tmp 46), none⟩])
 (.seq (.seq (.draw [(⟨some 47, .move (.tmp 9), none⟩, []),
 (⟨some 48, .move (.tmp 10), none⟩, []),
 (⟨some 49, .sliceSl 1 (.tmp 47) none (some (.tmp 48)) none, none⟩, []),
 (⟨some 50, .move (.tmp 6), none⟩, []),
 (⟨some 51, .move (.tmp 10), none⟩, []),
 (⟨some 52, .sliceSl 1 (.tmp 50) none (some (.tmp 51)) none, none⟩, []),
 (⟨some 53, .call (F 70) [.tmp 49, .tmp 52], none⟩, []),
 (⟨some 54, .un .not (.tmp 53), none⟩, [])])
 (.cond (.tmp 54)
 (.seq (.ops [⟨some 4, .move (.const (.bool false)), none⟩])
 (.ret))
 (.skip)))
 (.seq (.ops [⟨some 55, .move (.tmp 9), none⟩,
 ⟨some 56, .lenSl (.tmp 55), none⟩,
 ⟨some 57, .move (.tmp 6), none⟩,
 ⟨some 58, .lenSl (.tmp 57), none⟩,
 ⟨some 59, .bin .gtr (.tmp 56) (.tmp 58), none⟩])
 (.cond (.tmp 59)
 (.ops [⟨some 60, .move (.tmp 9), none⟩,
 ⟨some 6, .move (.tmp 60), none⟩])
 (.skip)))))))
 (.ops [⟨some 37, .move (.tmp 8), none⟩,
 ⟨some 38, .bin .add (.tmp 37) (.const (.int .i64 1)), none⟩,
 ⟨some 8, .move (.tmp 38), none⟩]))))))))
 (.ops [⟨some 26, .move (.tmp 7), none⟩,
 ⟨some 27, .bin .add (.tmp 26) (.const (.int .i64 1)), none⟩,
 ⟨some 7, .move (.tmp 27), none⟩]))))))
 (.seq (.ops [⟨some 61, .call (F 332) [], none⟩,
 ⟨some 4, .move (.tmp 61), none⟩])
 (.ret))))))⟩
/-- hurdle/hurdlelaw22.TroopValid -/
def c_hurdlelaw22_TroopValid (F : Nat → FuncId) (Ty : Nat → TypeId) : IFunc := ⟨92, [.tmp 4],
 .seq (.ops [⟨some 4, .move (.const (.bool false)), none⟩])
 (.seq (.seq (.ops [⟨some 13, .move (.tmp 1), none⟩,
 ⟨some 14, .call (F 334) [.tmp 13], none⟩,
 ⟨some 15, .un .not (.tmp 14), none⟩,
 ⟨some 16, .move (.tmp 15), none⟩,
 ⟨some 17, .move (.tmp 0), some (16, false)⟩,
 ⟨some 18, .call (F 18) [.tmp 17], some (16, false)⟩,
 ⟨some 19, .bin .eql (.tmp 18) (.const (.int .i64 0)), some (16, false)⟩,
 ⟨some 20, .pick (.tmp 16) (.const (.bool true)) (.tmp 19), none⟩])
 (.cond (.tmp 20)
 (.seq (.ops [⟨some 21, .call (F 332) [], none⟩,
 ⟨some 4, .move (.tmp 21), none⟩])
 (.ret))
 (.skip)))
 (.seq (.ops [⟨some 22, .move (.tmp 0), none⟩,
 ⟨some 23, .call (F 311) [.tmp 22], none⟩,
 ⟨some 5, .move (.tmp 23), none⟩])
 (.seq (.ops [⟨some 6, .move (.const (.slice none 0 0)), none⟩])
 (.seq (.seq (.ops [⟨some 7, .move (.const (.int .i64 0)), none⟩])
 (.block 0 (.loop (.seq (.seq (.ops [⟨some 24, .move (.tmp 7), none⟩,
 ⟨some 25, .move (.tmp 1), none⟩,
 ⟨some 26, .lenSl (.tmp 25), none⟩,
 ⟨some 27, .bin .lss (.tmp 24) (.tmp 26), none⟩])
 (.cond (.tmp 27)
 (.skip)
 (.exit 0)))
 (.seq (.block 1 (.seq (.ops [⟨some 30, .move (.tmp 5), none⟩,
 ⟨some 31, .move (.tmp 1), none⟩,
 ⟨some 32, .move (.tmp 7), none⟩,
 ⟨some 33, .idxSl 4 (.tmp 31) (.tmp 32), none⟩,
 ⟨some 34, .loadN 4 (.tmp 33), none⟩,
 ⟨some 35, .call (F 335) [.tmp 30, .tmp 34], none⟩,
 ⟨some 36, .move (.tmp 35), none⟩,
 ⟨some 37, .move (.tmp 1), some (36, true)⟩,
 ⟨some 38, .move (.tmp 7), some (36, true)⟩,
 ⟨some 39, .idxSl 4 (.tmp 37) (.tmp 38), some (36, true)⟩,
 ⟨some 40, .fieldAddr 0 (.tmp 39), some (36, true)⟩,
 ⟨some 41, .load1 (.tmp 40), some (36, true)⟩,
 ⟨some 42, .bin .eql (.tmp 41) (.const (.int .i64 4)), some (36, true)⟩,
 ⟨some 43, .pick (.tmp 36) (.tmp 42) (.const (.bool false)), none⟩])
 (.cond (.tmp 43)
 (.ops [⟨some 44, .move (.tmp 6), none⟩,
 ⟨some 45, .move (.tmp 1), none⟩,
 ⟨some 46, .move (.tmp 7), none⟩,
 ⟨some 47, .idxSl 4 (.tmp 45) (.tmp 46), none⟩,
 ⟨some 48, .fieldAddr 3 (.tmp 47), none⟩,
 ⟨some 49, .load1 (.tmp 48), none⟩,
 ⟨some 50, .buildSlice 1 [.string ⟨#[]⟩] [((0, 1), .tmp 49)], none⟩,
 ⟨some 51, .append 1 16 (.tmp 44) (.tmp 50), none⟩,
 ⟨some 6, .move (.tmp 51), none⟩])
 (.skip))))
 (.ops [⟨some 28, .move (.tmp 7), none⟩,
 ⟨some 29, .bin .add (.tmp 28) (.const (.int .i64 1)), none⟩,
 ⟨some 7, .move (.tmp 29), none⟩]))))))
 (.seq (.seq (.ops [⟨some 8, .move (.const (.int .i64 0)), none⟩])
 (.block 2 (.loop (.seq (.seq (.ops [⟨some 52, .move (.tmp 8), none⟩,
 ⟨some 53, .move (.tmp 0), none⟩,
 ⟨some 54, .bin .lss (.tmp 52) (.tmp 53), none⟩])
 (.cond (.tmp 54)
 (.skip)
 (.exit 2)))
 (.seq (.block 3 (.seq (.ops [⟨some 57, .move (.tmp 5), none⟩,
 ⟨some 58, .move (.tmp 8), none⟩,
 ⟨some 59, .call (F 320) [.tmp 57, .tmp 58], none⟩,
 ⟨some 9, .move (.tmp 59), none⟩])
 (.seq (.ops [⟨some 10, .move (.const (.int .i64 0)), none⟩])
 (.block 4 (.loop (.seq (.seq (.ops [⟨some 60, .move (.tmp 10), none⟩,
 ⟨some 61, .move (.tmp 9), none⟩,
 ⟨some 62, .lenSl (.tmp 61), none⟩,
 ⟨some 63, .bin .lss (.tmp 60) (.tmp 62), none⟩])
 (.cond (.tmp 63)
 (.skip)
 (.exit 4)))
 (.seq (.block 5 (.seq (.ops [⟨some 66, .move (.tmp 9), none⟩,
 ⟨some 67, .move (.tmp 10), none⟩,
 ⟨some 68, .idxSl 1 (.tmp 66) (.tmp 67), none⟩,
 ⟨some 69, .load1 (.tmp 68), none⟩,
 ⟨some 70, .bin .eql (.tmp 69) (.const (.string ⟨#[]⟩)), none⟩,
 ⟨some 11, .move (.tmp 70), none⟩])
 (.seq (.seq (.ops [⟨some 12, .move (.const (.int .i64 0)), none⟩])
 (.block 6 (.loop (.seq (.seq (.ops [⟨some 71, .move (.tmp 12), none⟩,
 ⟨some 72, .move (.tmp 6), none⟩,
 ⟨some 73, .lenSl (.tmp 72), none⟩,
 ⟨some 74, .bin .lss (.tmp 71) (.tmp 73), none⟩])
 (.cond (.tmp 74)
 (.skip)
 (.exit 6)))
 (.seq (.block 7 (.draw [(⟨some 77, .move (.tmp 11), none⟩, []),
 (⟨some 78, .move (.tmp 77), none⟩, []),
 (⟨some 79, .move (.tmp 6), some (78, false)⟩, []),
 (⟨some 80, .move (.tmp 12), some (78, false)⟩, []),
 (⟨some 81, .idxSl 1 (.tmp 79) (.tmp 80), some (78, false)⟩, []),
 (⟨some 82, .load1 (.tmp 81), some (78, false)⟩, []),
 (⟨some 83, .move (.tmp 9), some (78, false)⟩, []),
 (⟨some 84, .move (.tmp 10), some (78, false)⟩, []),
 (⟨some 85, .idxSl 1 (.tmp 83) (.tmp 84), some (78, false)⟩, []),
 (⟨some 86, .load1 (.tmp 85), some (78, false)⟩, []),
 (⟨some 87, .bin .eql (.tmp 82) (.tmp 86), some (78, false)⟩, []),
 (⟨some 88, .pick (.tmp 78) (.const (.bool true)) (.tmp 87), none⟩, []),
 (⟨some 11, .move (.tmp 88), none⟩, [])]))
 (.ops [⟨some 75, .move (.tmp 12), none⟩,
 ⟨some 76, .bin .add (.tmp 75) (.const (.int .i64 1)), none⟩,
 ⟨some 12, .move (.tmp 76), none⟩]))))))
 (.seq (.ops [⟨some 89, .move (.tmp 11), none⟩,
 ⟨some 90, .un .not (.tmp 89), none⟩])
 (.cond (.tmp 90)
 (.seq (.ops [⟨some 4, .move (.const (.bool false)), none⟩])
 (.ret))
 (.skip))))))
 (.ops [⟨some 64, .move (.tmp 10), none⟩,
 ⟨some 65, .bin .add (.tmp 64) (.const (.int .i64 1)), none⟩,
 ⟨some 10, .move (.tmp 65), none⟩]))))))))
 (.ops [⟨some 55, .move (.tmp 8), none⟩,
 ⟨some 56, .bin .add (.tmp 55) (.const (.int .i64 1)), none⟩,
 ⟨some 8, .move (.tmp 56), none⟩]))))))
 (.seq (.ops [⟨some 91, .call (F 332) [], none⟩,
 ⟨some 4, .move (.tmp 91), none⟩])
 (.ret)))))))⟩
/-- hurdle/hurdlelaw22.TroopNone -/
def c_hurdlelaw22_TroopNone (F : Nat → FuncId) (Ty : Nat → TypeId) : IFunc := ⟨78, [.tmp 2],
 .seq (.ops [⟨some 1, .box (.tmp 0), none⟩,
 ⟨some 2, .move (.const (.bool false)), none⟩])
 (.seq (.ops [⟨some 3, .move (.const (.pointer none)), none⟩])
 (.seq (.ops [⟨some 4, .move (.tmp 3), none⟩,
 ⟨some 5, .fieldAddr 1 (.tmp 1), none⟩,
 ⟨some 6, .load1 (.tmp 5), none⟩,
 ⟨some 7, .call (F 313) [.tmp 4, .tmp 6], none⟩,
 ⟨some 8, .un .not (.tmp 7), none⟩,
 ⟨some 9, .move (.tmp 8), none⟩,
 ⟨some 10, .move (.tmp 3), some (9, true)⟩,
 ⟨some 11, .fieldAddr 1 (.tmp 1), some (9, true)⟩,
 ⟨some 12, .load1 (.tmp 11), some (9, true)⟩,
 ⟨some 13, .fieldAddr 3 (.tmp 1), some (9, true)⟩,
 ⟨some 14, .load1 (.tmp 13), some (9, true)⟩,
 ⟨some 15, .call (F 314) [.tmp 10, .tmp 12, .tmp 14], some (9, true)⟩,
 ⟨some 16, .bin .eql (.tmp 15) (.const (.int .i64 1)), some (9, true)⟩,
 ⟨some 17, .pick (.tmp 9) (.tmp 16) (.const (.bool false)), none⟩,
 ⟨some 18, .move (.tmp 17), none⟩,
 ⟨some 19, .move (.tmp 3), some (18, true)⟩,
 ⟨some 20, .fieldAddr 1 (.tmp 1), some (18, true)⟩,
 ⟨some 21, .load1 (.tmp 20), some (18, true)⟩,
 ⟨some 22, .fieldAddr 2 (.tmp 1), some (18, true)⟩,
 ⟨some 23, .load1 (.tmp 22), some (18, true)⟩,
 ⟨some 24, .call (F 315) [.tmp 19, .tmp 21, .tmp 23], some (18, true)⟩,
 ⟨some 25, .un .not (.tmp 24), some (18, true)⟩,
 ⟨some 26, .pick (.tmp 18) (.tmp 25) (.const (.bool false)), none⟩,
 ⟨some 27, .move (.tmp 26), none⟩,
 ⟨some 28, .move (.tmp 3), some (27, true)⟩,
 ⟨some 29, .fieldAddr 1 (.tmp 1), some (27, true)⟩,
 ⟨some 30, .load1 (.tmp 29), some (27, true)⟩,
 ⟨some 31, .call (F 316) [.tmp 28, .tmp 30], some (27, true)⟩,
 ⟨some 32, .un .not (.tmp 31), some (27, true)⟩,
 ⟨some 33, .pick (.tmp 27) (.tmp 32) (.const (.bool false)), none⟩,
 ⟨some 34, .move (.tmp 33), none⟩,
 ⟨some 35, .move (.tmp 3), some (34, true)⟩,
 ⟨some 36, .fieldAddr 1 (.tmp 1), some (34, true)⟩,
 ⟨some 37, .load1 (.tmp 36), some (34, true)⟩,
 ⟨some 38, .call (F 317) [.tmp 35, .tmp 37], some (34, true)⟩,
 ⟨some 39, .un .not (.tmp 38), some (34, true)⟩,
 ⟨some 40, .pick (.tmp 34) (.tmp 39) (.const (.bool false)), none⟩,
 ⟨some 41, .move (.tmp 40), none⟩,
 ⟨some 42, .move (.tmp 3), some (41, true)⟩,
 ⟨some 43, .fieldAddr 1 (.tmp 1), some (41, true)⟩,
 ⟨some 44, .load1 (.tmp 43), some (41, true)⟩,
 ⟨some 45, .call (F 318) [.tmp 42, .tmp 44], some (41, true)⟩,
 ⟨some 46, .un .not (.tmp 45), some (41, true)⟩,
 ⟨some 47, .pick (.tmp 41) (.tmp 46) (.const (.bool false)), none⟩,
 ⟨some 48, .move (.tmp 47), none⟩,
 ⟨some 49, .move (.tmp 3), some (48, true)⟩,
 ⟨some 50, .fieldAddr 1 (.tmp 1), some (48, true)⟩,
 ⟨some 51, .load1 (.tmp 50), some (48, true)⟩,
 ⟨some 52, .call (F 319) [.tmp 49, .tmp 51], some (48, true)⟩,
 ⟨some 53, .un .not (.tmp 52), some (48, true)⟩,
 ⟨some 54, .pick (.tmp 48) (.tmp 53) (.const (.bool false)), none⟩,
 ⟨some 55, .move (.tmp 54), none⟩,
 ⟨some 56, .move (.tmp 3), some (55, true)⟩,
 ⟨some 57, .fieldAddr 1 (.tmp 1), some (55, true)⟩,
 ⟨some 58, .load1 (.tmp 57), some (55, true)⟩,
 ⟨some 59, .call (F 320) [.tmp 56, .tmp 58], some (55, true)⟩,
 ⟨some 60, .lenSl (.tmp 59), some (55, true)⟩,
 ⟨some 61, .bin .eql (.tmp 60) (.const (.int .i64 0)), some (55, true)⟩,
 ⟨some 62, .pick (.tmp 55) (.tmp 61) (.const (.bool false)), none⟩,
 ⟨some 63, .move (.tmp 62), none⟩,
 ⟨some 64, .move (.tmp 3), some (63, true)⟩,
 ⟨some 65, .call (F 321) [.tmp 64], some (63, true)⟩,
 ⟨some 66, .bin .eql (.tmp 65) (.const (.int .i64 0)), some (63, true)⟩,
 ⟨some 67, .pick (.tmp 63) (.tmp 66) (.const (.bool false)), none⟩,
 ⟨some 68, .move (.tmp 67), none⟩,
 ⟨some 69, .move (.tmp 3), some (68, true)⟩,
 ⟨some 70, .fieldAddr 1 (.tmp 1), some (68, true)⟩,
 ⟨some 71, .load1 (.tmp 70), some (68, true)⟩,
 ⟨some 72, .call (F 322) [.tmp 69, .tmp 71], some (68, true)⟩,
 ⟨some 73, .un .not (.tmp 72), some (68, true)⟩,
 ⟨some 74, .pick (.tmp 68) (.tmp 73) (.const (.bool false)), none⟩,
 ⟨some 75, .move (.tmp 74), none⟩,
 ⟨some 76, .call (F 332) [], some (75, true)⟩,
 ⟨some 77, .pick (.tmp 75) (.tmp 76) (.const (.bool false)), none⟩,
 ⟨some 2, .move (.tmp 77), none⟩])
 (.ret)))⟩
/-- hurdle/hurdlelaw22.awake -/
def c_hurdlelaw22_awake (F : Nat → FuncId) (Ty : Nat → TypeId) : IFunc := ⟨55, [.tmp 0],
 .seq (.ops [⟨some 0, .move (.const (.bool false)), none⟩])
 (.seq (.ops [⟨some 4, .call (F 311) [.const (.int .i64 3)], none⟩,
 ⟨some 1, .move (.tmp 4), none⟩])
 (.seq (.seq (.ops [⟨some 5, .move (.tmp 1), none⟩,
 ⟨some 6, .eqNil 0 false (.tmp 5), none⟩,
 ⟨some 7, .move (.tmp 6), none⟩,
 ⟨some 8, .call (F 311) [.const (.int .i64 0)], some (7, false)⟩,
 ⟨some 9, .eqNil 0 true (.tmp 8), some (7, false)⟩,
 ⟨some 10, .pick (.tmp 7) (.const (.bool true)) (.tmp 9), none⟩])
 (.cond (.tmp 10)
 (.seq (.ops [⟨some 0, .move (.const (.bool false)), none⟩])
 (.ret))
 (.skip)))
 (.seq (.ops [⟨some 11, .move (.tmp 1), none⟩,
 ⟨some 12, .call (F 313) [.tmp 11, .const (.int .i64 0)], none⟩,
 ⟨some 2, .move (.tmp 12), none⟩])
 (.seq (.ops [⟨some 13, .move (.tmp 1), none⟩,
 ⟨some 14, .call (F 333) [.tmp 13], none⟩])
 (.seq (.ops [⟨some 15, .move (.tmp 1), none⟩,
 ⟨some 16, .call (F 314) [.tmp 15, .const (.int .i64 0), .const (.string ⟨#[118]⟩)], none⟩,
 ⟨some 3, .move (.tmp 16), none⟩])
 (.seq (.ops [⟨some 17, .move (.tmp 1), none⟩,
 ⟨some 18, .call (F 333) [.tmp 17], none⟩])
 (.seq (.ops [⟨some 19, .move (.tmp 2), none⟩,
 ⟨some 20, .move (.tmp 19), none⟩,
 ⟨some 21, .move (.tmp 1), some (20, true)⟩,
 ⟨some 22, .call (F 322) [.tmp 21, .const (.int .i64 0)], some (20, true)⟩,
 ⟨some 23, .pick (.tmp 20) (.tmp 22) (.const (.bool false)), none⟩,
 ⟨some 24, .move (.tmp 23), none⟩,
 ⟨some 25, .move (.tmp 3), some (24, true)⟩,
 ⟨some 26, .bin .eql (.tmp 25) (.const (.int .i64 0)), some (24, true)⟩,
 ⟨some 27, .pick (.tmp 24) (.tmp 26) (.const (.bool false)), none⟩,
 ⟨some 28, .move (.tmp 27), none⟩,
 ⟨some 29, .move (.tmp 1), some (28, true)⟩,
 ⟨some 30, .call (F 320) [.tmp 29, .const (.int .i64 0)], some (28, true)⟩,
 ⟨some 31, .buildSlice 1 [.string ⟨#[]⟩] [((0, 1), .const (.string ⟨#[118]⟩))], some (28, true)⟩,
 ⟨some 32, .call (F 70) [.tmp 30, .tmp 31], some (28, true)⟩,
 ⟨some 33, .pick (.tmp 28) (.tmp 32) (.const (.bool false)), none⟩,
 ⟨some 34, .move (.tmp 33), none⟩,
 ⟨some 35, .move (.tmp 1), some (34, true)⟩,
 ⟨some 36, .call (F 320) [.tmp 35, .const (.int .i64 2)], some (34, true)⟩,
 ⟨some 37, .buildSlice 1 [.string ⟨#[]⟩] [((0, 1), .const (.string ⟨#[118]⟩))], some (34, true)⟩,
 ⟨some 38, .call (F 70) [.tmp 36, .tmp 37], some (34, true)⟩,
 ⟨some 39, .pick (.tmp 34) (.tmp 38) (.const (.bool false)), none⟩,
 ⟨some 40, .move (.tmp 39), none⟩,
 ⟨some 41, .move (.tmp 1), some (40, true)⟩,
 ⟨some 42, .call (F 313) [.tmp 41, .const (.int .i64 3)], some (40, true)⟩,
 ⟨some 43, .un .not (.tmp 42), some (40, true)⟩,
 ⟨some 44, .pick (.tmp 40) (.tmp 43) (.const (.bool false)), none⟩,
 ⟨some 45, .move (.tmp 44), none⟩,
 ⟨some 46, .move (.tmp 1), some (45, true)⟩,
 ⟨some 47, .call (F 314) [.tmp 46, .const (.int .i64 1), .const (.string ⟨#[120]⟩)], some (45, true)⟩,
 ⟨some 48, .bin .eql (.tmp 47) (.const (.int .i64 16)), some (45, true)⟩,
 ⟨some 49, .pick (.tmp 45) (.tmp 48) (.const (.bool false)), none⟩,
 ⟨some 50, .move (.tmp 49), none⟩,
 ⟨some 51, .move (.tmp 1), some (50, true)⟩,
 ⟨some 52, .call (F 316) [.tmp 51, .const (.int .i64 0)], some (50, true)⟩,
 ⟨some 53, .un .not (.tmp 52), some (50, true)⟩,
 ⟨some 54, .pick (.tmp 50) (.tmp 53) (.const (.bool false)), none⟩,
 ⟨some 0, .move (.tmp 54), none⟩])
 (.ret))))))))⟩
/-- hurdle/hurdlelaw22.deliver -/
def c_hurdlelaw22_deliver (F : Nat → FuncId) (Ty : Nat → TypeId) : IFunc := ⟨14, [],
 .seq (.ops [⟨some 2, .move (.const (.int .i64 0)), none⟩])
 (.block 0 (.loop (.seq (.seq (.ops [⟨some 3, .move (.tmp 2), none⟩,
 ⟨some 4, .bin .lss (.tmp 3) (.const (.int .i64 300)), none⟩,
 ⟨some 5, .move (.tmp 4), none⟩,
 ⟨some 6, .move (.tmp 0), some (5, true)⟩,
 ⟨some 7, .call (F 321) [.tmp 6], some (5, true)⟩,
 ⟨some 8, .bin .gtr (.tmp 7) (.const (.int .i64 0)), some (5, true)⟩,
 ⟨some 9, .pick (.tmp 5) (.tmp 8) (.const (.bool false)), none⟩])
 (.cond (.tmp 9)
 (.skip)
 (.exit 0)))
 (.seq (.block 1 (.ops [⟨some 12, .move (.tmp 0), none⟩,
 ⟨some 13, .call (F 316) [.tmp 12, .const (.int .i64 0)], none⟩]))
 (.ops [⟨some 10, .move (.tmp 2), none⟩,
 ⟨some 11, .bin .add (.tmp 10) (.const (.int .i64 1)), none⟩,
 ⟨some 2, .move (.tmp 11), none⟩])))))⟩
/-- hurdle/hurdlelaw22.few -/
def c_hurdlelaw22_few (F : Nat → FuncId) (Ty : Nat → TypeId) : IFunc := ⟨20, [.tmp 2],
 .seq (.ops [⟨some 2, .move (.const (.bool false)), none⟩])
 (.seq (.seq (.ops [⟨some 4, .move (.tmp 0), none⟩,
 ⟨some 5, .lenSl (.tmp 4), none⟩,
 ⟨some 6, .bin .gtr (.tmp 5) (.const (.int .i64 200)), none⟩])
 (.cond (.tmp 6)
 (.seq (.ops [⟨some 2, .move (.const (.bool false)), none⟩])
 (.ret))
 (.skip)))
 (.seq (.seq (.ops [⟨some 3, .move (.const (.int .i64 0)), none⟩])
 (.block 0 (.loop (.seq (.seq (.ops [⟨some 7, .move (.tmp 3), none⟩,
 ⟨some 8, .move (.tmp 0), none⟩,
 ⟨some 9, .lenSl (.tmp 8), none⟩,
 ⟨some 10, .bin .lss (.tmp 7) (.tmp 9), none⟩])
 (.cond (.tmp 10)
 (.skip)
 (.exit 0)))
 (.seq (.block 1 (.seq (.ops [⟨some 13, .move (.tmp 0), none⟩,
 ⟨some 14, .move (.tmp 3), none⟩,
 ⟨some 15, .idxSl 4 (.tmp 13) (.tmp 14), none⟩,
 ⟨some 16, .fieldAddr 3 (.tmp 15), none⟩,
 ⟨some 17, .load1 (.tmp 16), none⟩,
 ⟨some 18, .strLen (.tmp 17), none⟩,
 ⟨some 19, .bin .gtr (.tmp 18) (.const (.int .i64 100)), none⟩])
 (.cond (.tmp 19)
 (.seq (.ops [⟨some 2, .move (.const (.bool false)), none⟩])
 (.ret))
 (.skip))))
 (.ops [⟨some 11, .move (.tmp 3), none⟩,
 ⟨some 12, .bin .add (.tmp 11) (.const (.int .i64 1)), none⟩,
 ⟨some 3, .move (.tmp 12), none⟩]))))))
 (.seq (.ops [⟨some 2, .move (.const (.bool true)), none⟩])
 (.ret))))⟩
/-- hurdle/hurdlelaw22.do -/
def c_hurdlelaw22_do (F : Nat → FuncId) (Ty : Nat → TypeId) : IFunc := ⟨54, [.tmp 4],
 .seq (.ops [⟨some 3, .box (.tmp 1), none⟩,
 ⟨some 4, .move (.const (.bool false)), none⟩])
 (.seq (.seq (.ops [⟨some 5, .fieldAddr 0 (.tmp 3), none⟩,
 ⟨some 6, .load1 (.tmp 5), none⟩])
 (.block 0 (.seq (.ops [⟨some 8, .bin .eql (.tmp 6) (.const (.int .i64 0)), none⟩,
 ⟨some 7, .move (.tmp 8), none⟩])
 (.cond (.tmp 7)
 (.seq (.ops [⟨some 9, .move (.tmp 0), none⟩,
 ⟨some 10, .fieldAddr 1 (.tmp 3), none⟩,
 ⟨some 11, .load1 (.tmp 10), none⟩,
 ⟨some 12, .call (F 316) [.tmp 9, .tmp 11], none⟩,
 ⟨some 4, .move (.tmp 12), none⟩])
 (.ret))
 (.seq (.ops [⟨some 14, .bin .eql (.tmp 6) (.const (.int .i64 1)), none⟩,
 ⟨some 13, .move (.tmp 14), none⟩])
 (.cond (.tmp 13)
 (.seq (.ops [⟨some 15, .move (.tmp 0), none⟩,
 ⟨some 16, .fieldAddr 1 (.tmp 3), none⟩,
 ⟨some 17, .load1 (.tmp 16), none⟩,
 ⟨some 18, .call (F 317) [.tmp 15, .tmp 17], none⟩,
 ⟨some 4, .move (.tmp 18), none⟩])
 (.ret))
 (.seq (.ops [⟨some 20, .bin .eql (.tmp 6) (.const (.int .i64 2)), none⟩,
 ⟨some 19, .move (.tmp 20), none⟩])
 (.cond (.tmp 19)
 (.seq (.ops [⟨some 21, .move (.tmp 0), none⟩,
 ⟨some 22, .fieldAddr 1 (.tmp 3), none⟩,
 ⟨some 23, .load1 (.tmp 22), none⟩,
 ⟨some 24, .call (F 318) [.tmp 21, .tmp 23], none⟩,
 ⟨some 4, .move (.tmp 24), none⟩])
 (.ret))
 (.seq (.ops [⟨some 26, .bin .eql (.tmp 6) (.const (.int .i64 3)), none⟩,
 ⟨some 25, .move (.tmp 26), none⟩])
 (.cond (.tmp 25)
 (.seq (.ops [⟨some 27, .move (.tmp 0), none⟩,
 ⟨some 28, .fieldAddr 1 (.tmp 3), none⟩,
 ⟨some 29, .load1 (.tmp 28), none⟩,
 ⟨some 30, .call (F 313) [.tmp 27, .tmp 29], none⟩,
 ⟨some 4, .move (.tmp 30), none⟩])
 (.ret))
 (.seq (.ops [⟨some 32, .bin .eql (.tmp 6) (.const (.int .i64 4)), none⟩,
 ⟨some 31, .move (.tmp 32), none⟩])
 (.cond (.tmp 31)
 (.seq (.ops [⟨some 33, .move (.tmp 0), none⟩,
 ⟨some 34, .fieldAddr 1 (.tmp 3), none⟩,
 ⟨some 35, .load1 (.tmp 34), none⟩,
 ⟨some 36, .fieldAddr 3 (.tmp 3), none⟩,
 ⟨some 37, .load1 (.tmp 36), none⟩,
 ⟨some 38, .call (F 314) [.tmp 33, .tmp 35, .tmp 37], none⟩,
 ⟨some 39, .bin .eql (.tmp 38) (.const (.int .i64 0)), none⟩,
 ⟨some 4, .move (.tmp 39), none⟩])
 (.ret))
 (.seq (.ops [⟨some 41, .bin .eql (.tmp 6) (.const (.int .i64 5)), none⟩,
 ⟨some 40, .move (.tmp 41), none⟩])
 (.cond (.tmp 40)
 (.seq (.ops [⟨some 42, .move (.tmp 0), none⟩,
 ⟨some 43, .fieldAddr 1 (.tmp 3), none⟩,
 ⟨some 44, .load1 (.tmp 43), none⟩,
 ⟨some 45, .fieldAddr 2 (.tmp 3), none⟩,
 ⟨some 46, .load1 (.tmp 45), none⟩,
 ⟨some 47, .call (F 315) [.tmp 42, .tmp 44, .tmp 46], none⟩,
 ⟨some 4, .move (.tmp 47), none⟩])
 (.ret))
 (.seq (.ops [⟨some 49, .bin .eql (.tmp 6) (.const (.int .i64 6)), none⟩,
 ⟨some 48, .move (.tmp 49), none⟩])
 (.cond (.tmp 48)
 (.seq (.ops [⟨some 50, .move (.tmp 0), none⟩,
 ⟨some 51, .fieldAddr 1 (.tmp 3), none⟩,
 ⟨some 52, .load1 (.tmp 51), none⟩,
 ⟨some 53, .call (F 319) [.tmp 50, .tmp 52], none⟩,
 ⟨some 4, .move (.tmp 53), none⟩])
 (.ret))
 (.skip)))))))))))))))))
 (.seq (.ops [⟨some 4, .move (.const (.bool false)), none⟩])
 (.ret)))⟩
/-- A context has these functions. -/
structure HasLaw22 (c : Ctx) : Prop where
 hurdlelaw22_TroopCalm : c.IP (c.F 328) = some (c_hurdlelaw22_TroopCalm c.F c.Ty)
 hurdlelaw22_TroopAgrees : c.IP (c.F 329) = some (c_hurdlelaw22_TroopAgrees c.F c.Ty)
 hurdlelaw22_TroopValid : c.IP (c.F 330) = some (c_hurdlelaw22_TroopValid c.F c.Ty)
 hurdlelaw22_TroopNone : c.IP (c.F 331) = some (c_hurdlelaw22_TroopNone c.F c.Ty)
 hurdlelaw22_awake : c.IP (c.F 332) = some (c_hurdlelaw22_awake c.F c.Ty)
 hurdlelaw22_deliver : c.IP (c.F 333) = some (c_hurdlelaw22_deliver c.F c.Ty)
 hurdlelaw22_few : c.IP (c.F 334) = some (c_hurdlelaw22_few c.F c.Ty)
 hurdlelaw22_do : c.IP (c.F 335) = some (c_hurdlelaw22_do c.F c.Ty)

end Go.Proofs.YtpbbjfighohokaaI
namespace Go.Proofs.YtpbbjfighohokaaI
attribute [local simp] J0 J1 J2 J3 J4 J5 J6 J7 J8 J9 Ja Jb Jc Jd Je Jf Jg Jh Ji Jj Jk Jl Jm Jn Jo Jp Jq Jr Js Jt Ju Jv Jw Jx Jy Jz JA JB JC JD JE JF JG JH JI JJ JK JL JM JN JO JP JQ JR JS stillI IOp.kind JT JU JV JW JX JY JZ Y0 Y1 Y2 Y3 Y4 Y5 Y6 Y7 Y8 Y9 Ya Yb Yc Yd Ye Yf Yg Yh Yi Yj Yk Yl Ym Yn Yo Yp Yq ial Yr Ys Yt Yu Yv Yw Yx Yy ires iresL ires1 Yz YA YB YC YD YE bin2 YF YG YH YI YJ YK YL YM YN YO YP YQ YR YS YT YU un1 shOk eqL eq1 fillL putAt IHeap.load1 IHeap.loadL IHeap.storeL YV YW YX YY YZ B0 B1 B2 B3 B4 B5 B6 B7 B8 B9 Ba Bb Bc Bd Be Bf Bg Bh Bi Bj Bk Bl Bm Bn Bo Bp
set_option linter.unusedSimpArgs false
set_option linter.unusedVariables false
open Go

def Tp.arrive (S : Tp) (a : Nat) : Tp := match S.way[a]? with
  | none => S
  | some x => match S.R[x.to.toNat]? with
    | none => S
    | some R => (S.drop a).say x.to.toNat (R.take x)
theorem Tp.arrive_eq {S : Tp} {a : Nat} {x : NoteD} {R : Rp} (hx : S.way[a]? = some x) (hR : S.R[x.to.toNat]? = some R) : S.arrive a = (S.drop a).say x.to.toNat (R.take x) := by
  unfold Tp.arrive; rw [hx]; simp only [hR]
def arrR : Nat → Tp → Tp
  | 0, S => S
  | f + 1, S => match S.way with
    | [] => S
    | _ => arrR f (S.arrive 0)
theorem Tn.step {w w' : Nat → Nat} {H H' H'' : IHeap} {t : Nat} {g : FuncId} {S'' : Tp} (p1 : Fr (fun b => w b ≠ 0) H H') (p2 : ∀ b, w' b ≠ 0 → w b ≠ 0 ∨ H.next ≤ b) (p3 : ∀ b, w b = 5 → w' b = 5) (h : Tn w' H' t g S'' H'') : Tn w H t g S'' H'' := by
  obtain ⟨w'', k1, k2, k3, k4⟩ := h
  have := p1.next
  exact ⟨w'', p1.trans k1 fun b hb => (p2 b hb), fun b hb => (k2 b hb).elim (p2 b) fun z => .inr (by omega), fun b hb => k3 b (p3 b hb), k4⟩
theorem atI_zero {n : Nat} (h : n ≠ 0) : atI 0 n = 0 := by
  unfold atI
  rw [Int.zero_tmod, Int.zero_add, Int.tmod_self]

section
variable (c : Ctx) (hc : HasTroop c) (hN : NodeC c) (hL : HasLaw22 c) {H : IHeap} {K : Value → IHeap → Prop} {w : Nat → Nat} {t : Nat} {S : Tp} {n : Int}

include hc hN hL in
theorem deliver_ok (h : IsT w H t (c.F n_troop_New_F1) S) (ho : S.ok n) (hK : ∀ H', Tn w H t (c.F n_troop_New_F1) (arrR 300 S) H' → (arrR 300 S).ok n → K (.tuple #[]) H') :
    c.C (c.F n_hurdlelaw22_deliver) [.pointer (some ⟨t, 0, none⟩)] H K := by
  refine c.enter hL.hurdlelaw22_deliver rfl ?_
  obtain ⟨G, hG⟩ : ∃ G, G = arrR 300 S := ⟨_, rfl⟩
  rw [← hG] at hK
  simp -implicitDefEqProofs [c_hurdlelaw22_deliver]
  refine loop_nat c.mono (fun k T H' => ∃ (i : Nat) (S' : Tp), i ≤ 300 ∧ k = 300 - i ∧ T 0 = .pointer (some ⟨t, 0, none⟩) ∧ T 2 = .int .i64 i ∧ Tn w H t (c.F n_troop_New_F1) S' H' ∧ S'.ok n ∧ arrR (300 - i) S' = G) 300 ?_ ?_
  · refine ⟨0, S, by omega, rfl, ?_⟩
    simp -implicitDefEqProofs []
    exact ⟨Tn.same h, ho, hG.symm⟩
  · rintro k T H' ⟨i, S', hi, rfl, t0, t2, tn, ho', hG'⟩
    by_cases h3 : i < 300
    · have h3' : (i : Int) < 300 := by omega
      have wi : IntKind.i64.wrap ((i : Int) + 1) = (i : Int) + 1 := wrap64 (by omega) (by omega)
      obtain ⟨w', p1, p2, p3, p4⟩ := tn
      simp -implicitDefEqProofs [t0, t2, h3, h3']
      refine call_of (TWaiting_ok c hc p4 ?_)
      by_cases hw : S'.way.length = 0
      · have hw0 := List.length_eq_zero_iff.1 hw
        have hGS : S' = G := by
          rw [← hG', show 300 - i = (300 - (i + 1)) + 1 by omega]
          simp only [arrR, hw0]
        simp -implicitDefEqProofs [t0, t2, h3, h3', hw]
        rw [← hGS] at hK
        exact hK H' ⟨w', p1, p2, p3, p4⟩ ho'
      · have hw' : (0 : Int) < (S'.way.length : Int) := by omega
        have hwp : 0 < S'.way.length := by omega
        simp -implicitDefEqProofs [t0, t2, h3, h3', hw, hw', hwp]
        refine call_of (TDeliver_ok c hc hN (i := 0) p4 ho' (fun hz => absurd (by rw [hz]; rfl) hw) fun a x R ha hx hR H2 tn2 ok2 => ?_)
        rw [atI_zero hw] at ha
        have ha0 : a = 0 := by omega
        subst ha0
        rw [← Tp.arrive_eq hx hR] at tn2 ok2
        simp -implicitDefEqProofs [t0, t2, h3, h3', wi]
        refine ⟨300 - (i + 1), by omega, i + 1, by omega, rfl, rfl, S'.arrive 0, Tn.step p1 p2 p3 tn2, ok2, ?_⟩
        · rw [← hG', show 300 - i = (300 - (i + 1)) + 1 by omega]
          simp only [arrR]
          split
          · rename_i hz; exact absurd (by rw [hz]; rfl) hw
          · rfl
    · have h3' : ¬ (i : Int) < 300 := by omega
      have hie : i = 300 := by omega
      subst hie
      have hGS : S' = G := hG'
      simp -implicitDefEqProofs [t0, t2, h3, h3']
      rw [← hGS] at hK
      exact hK H' tn ho'
end
end Go.Proofs.YtpbbjfighohokaaI
namespace Go.Proofs.YtpbbjfighohokaaI
attribute [local simp] J0 J1 J2 J3 J4 J5 J6 J7 J8 J9 Ja Jb Jc Jd Je Jf Jg Jh Ji Jj Jk Jl Jm Jn Jo Jp Jq Jr Js Jt Ju Jv Jw Jx Jy Jz JA JB JC JD JE JF JG JH JI JJ JK JL JM JN JO JP JQ JR JS stillI IOp.kind JT JU JV JW JX JY JZ Y0 Y1 Y2 Y3 Y4 Y5 Y6 Y7 Y8 Y9 Ya Yb Yc Yd Ye Yf Yg Yh Yi Yj Yk Yl Ym Yn Yo Yp Yq ial Yr Ys Yt Yu Yv Yw Yx Yy ires iresL ires1 Yz YA YB YC YD YE bin2 YF YG YH YI YJ YK YL YM YN YO YP YQ YR YS YT YU un1 shOk eqL eq1 fillL putAt IHeap.load1 IHeap.loadL IHeap.storeL YV YW YX YY YZ B0 B1 B2 B3 B4 B5 B6 B7 B8 B9 Ba Bb Bc Bd Be Bf Bg Bh Bi Bj Bk Bl Bm Bn Bo Bp
set_option linter.unusedSimpArgs false
set_option linter.unusedVariables false
open Go

def rowT1 (x : ByteArray) : List Value := [.string x]
section
variable (c : Ctx) (hR : HasRef22 c) {H : IHeap} {K : Value → IHeap → Prop}
include hR

theorem refTexts01_ok {l m : List ByteArray} {u v : Value} (hu : SlR H 1 u (l.map rowT1)) (hv : SlR H 1 v (m.map rowT1)) (hl : l.length ≤ 1000000000) (hK : K (.bool (decide (l = m))) H) : c.C (c.F n_hurdleref01_Texts) [u, v] H K := by
  refine c.enter hR.hurdleref01_Texts rfl ?_
  have hu' := hu
  have hv' := hv
  obtain ⟨a, cap, rfl, _⟩ := hu
  obtain ⟨a2, cap2, rfl, _⟩ := hv
  simp only [List.length_map] at hu' hv' ⊢
  by_cases hlen : l.length = m.length
  · simp -implicitDefEqProofs [c_hurdleref01_Texts, hlen]
    refine loop_nat c.mono (fun k T H' => ∃ i : Nat, i ≤ l.length ∧ k = l.length - i ∧ T 0 = .slice a m.length cap ∧ T 1 = .slice a2 m.length cap2 ∧ T 5 = .int .i64 i ∧ H' = H ∧ l.take i = m.take i) l.length ?_ ?_
    · exact ⟨0, by omega, rfl, by simp -implicitDefEqProofs [], by simp -implicitDefEqProofs [], by simp -implicitDefEqProofs [], rfl, rfl⟩
    · rintro k T H' ⟨i, hi, rfl, t0, t1, t5, rfl, heq⟩
      by_cases hil : i < l.length
      · have him : i < m.length := by omega
        obtain ⟨b, o, cp, cs, ro, e1, hb, hget, hat⟩ := hu'.at1 (i := i) (x := .string l[i]) (by simp [hil, rowT1])
        obtain ⟨b2, o2, cp2, cs2, ro2, e2, hb2, hget2, hat2⟩ := hv'.at1 (i := i) (x := .string m[i]) (by simp [him, rowT1])
        simp only [Value.slice.injEq] at e1 e2
        obtain ⟨rfl, -, rfl⟩ := e1
        obtain ⟨rfl, -, rfl⟩ := e2
        have hic : (i : Int) < (m.length : Int) := by omega
        have hw : IntKind.i64.wrap ((i : Int) + 1) = (i : Int) + 1 := wrap64 (by omega) (by omega)
        by_cases hx : l[i] = m[i]
        · simp -implicitDefEqProofs [t0, t1, t5, hic, him, hget, hget2, hat, hat2, hx, hw, str2]
          refine ⟨l.length - (i + 1), by omega, i + 1, by omega, rfl, by simp, ?_⟩
          rw [List.take_add_one, List.take_add_one, heq, List.getElem?_eq_getElem hil, List.getElem?_eq_getElem him, hx]
        · have hx' : ¬ l[i].data = m[i].data := fun h => hx (by cases h1 : l[i]; cases h2 : m[i]; rw [h1, h2] at h; simp at h; rw [h])
          simp -implicitDefEqProofs [t0, t1, t5, hic, him, hget, hget2, hat, hat2, hx', hw, str2]
          have : decide (l = m) = false := decide_eq_false (by rintro rfl; exact hx rfl)
          rw [this] at hK
          exact hK
      · have him : ¬ i < m.length := by omega
        have hic : ¬ (i : Int) < (m.length : Int) := by omega
        simp -implicitDefEqProofs [t0, t1, t5, hic, him]
        rw [List.take_of_length_le (by omega), List.take_of_length_le (by omega)] at heq
        have : decide (l = m) = true := decide_eq_true heq
        rw [this] at hK
        exact hK
  · have hlen' : ¬ (l.length : Int) = (m.length : Int) := by omega
    simp -implicitDefEqProofs [c_hurdleref01_Texts, hlen, hlen']
    have : decide (l = m) = false := decide_eq_false (by rintro rfl; exact hlen rfl)
    rw [this] at hK
    exact hK

end
end Go.Proofs.YtpbbjfighohokaaI
namespace Go.Proofs.YtpbbjfighohokaaI
attribute [local simp] J0 J1 J2 J3 J4 J5 J6 J7 J8 J9 Ja Jb Jc Jd Je Jf Jg Jh Ji Jj Jk Jl Jm Jn Jo Jp Jq Jr Js Jt Ju Jv Jw Jx Jy Jz JA JB JC JD JE JF JG JH JI JJ JK JL JM JN JO JP JQ JR JS stillI IOp.kind JT JU JV JW JX JY JZ Y0 Y1 Y2 Y3 Y4 Y5 Y6 Y7 Y8 Y9 Ya Yb Yc Yd Ye Yf Yg Yh Yi Yj Yk Yl Ym Yn Yo Yp Yq ial Yr Ys Yt Yu Yv Yw Yx Yy ires iresL ires1 Yz YA YB YC YD YE bin2 YF YG YH YI YJ YK YL YM YN YO YP YQ YR YS YT YU un1 shOk eqL eq1 fillL putAt IHeap.load1 IHeap.loadL IHeap.storeL YV YW YX YY YZ B0 B1 B2 B3 B4 B5 B6 B7 B8 B9 Ba Bb Bc Bd Be Bf Bg Bh Bi Bj Bk Bl Bm Bn Bo Bp
set_option linter.unusedSimpArgs false
set_option linter.unusedVariables false
open Go

def sv : ByteArray := ⟨#[118]⟩
def sx2 : ByteArray := ⟨#[120]⟩
def rp0 : Rp := Rp.new 3 0
def z0 : Tp := Tp.new 3
def z1 : Tp := z0.say 0 rp0.lead
def z2 : Tp := arrR 300 z1
def rq0 : Rp := (z2.R[0]?).getD rp0
def z3 : Tp := z2.say 0 ((rq0.propose sv).1, (rq0.propose sv).2.1)
def z4 : Tp := arrR 300 z3
theorem z2_len : z2.R.length = 3 := by decide +kernel
theorem z2_err : (rq0.propose sv).2.2 = 0 := by decide +kernel
theorem z4_len : z4.R.length = 3 := by decide +kernel
theorem z4_leads : ((z4.R[0]?).getD rp0).P.does = 2 := by decide +kernel
theorem z4_log0 : logL ((z4.R[0]?).getD rp0).L 0 = [sv] := by decide +kernel
theorem z4_log2 : logL ((z4.R[2]?).getD rp0).L 0 = [sv] := by decide +kernel
theorem z4_err : (((z4.R[1]?).getD rp0).propose sx2).2.2 = 16 := by decide +kernel
theorem z4_way : z4.way = [] := by decide +kernel

theorem at_get {S : Tp} {i : Nat} (h : i < S.R.length) (d : Rp) : S.at i = some ((S.R[i]?).getD d) := by
  unfold Tp.at
  rw [if_pos (by omega), Int.toNat_natCast, List.getElem?_eq_getElem h]
  rfl

section
variable (c : Ctx) (hc : HasTroop c) (hN : NodeC c) (hR : HasRef22 c) (hL : HasLaw22 c) {H : IHeap} {K : Value → IHeap → Prop}

include hc hN hR hL in
theorem awake22 (hK : ∀ H', K (.bool true) H') : c.C (c.F n_hurdlelaw22_awake) [] H K := by
  refine c.enter hL.hurdlelaw22_awake rfl ?_
  have q3 : quorumI 3 ≠ 0 := by decide
  simp -implicitDefEqProofs [c_hurdlelaw22_awake]
  refine call_of (TNew_ok c hc hN (fun h => absurd h q3) fun _ t w H1 k1 w1 i1 => ?_)
  simp -implicitDefEqProofs [nilOf]
  refine call_of (TNew_ok c hc hN (fun _ H2 k2 => ?_) fun h => absurd rfl h)
  have i2 := i1.le k2
  have ok0 : (Tp.new 3).ok 3 := .new q3
  have at0 : z0.at 0 = some rp0 := rfl
  simp -implicitDefEqProofs [nilOf]
  refine call_of (TLead_ok c hc hN (n := 3) i2 ok0 (fun h => by have h : z0.at 0 = none := h; rw [at0] at h; cases h) fun R hat H3 tn3 ok3 => ?_)
  have hat' : z0.at 0 = some R := hat
  rw [at0] at hat'
  injection hat' with hat'
  subst hat'
  obtain ⟨w3, _, _, _, i3⟩ := tn3
  have i3' : IsT w3 H3 t (c.F n_troop_New_F1) z1 := i3
  have ok3' : z1.ok 3 := ok3
  simp -implicitDefEqProofs []
  refine call_of (deliver_ok c hc hN hL i3' ok3' fun H4 tn4 ok4 => ?_)
  obtain ⟨w4, _, _, _, i4⟩ := tn4
  have i4' : IsT w4 H4 t (c.F n_troop_New_F1) z2 := i4
  have ok4' : z2.ok 3 := ok4
  have at2 : z2.at 0 = some rq0 := at_get (i := 0) (by rw [z2_len]; omega) rp0
  simp -implicitDefEqProofs []
  refine call_of (TPropose_ok c hc hN (s := sv) i4' ok4' (fun h => by rw [at2] at h; cases h) (fun R hat _ H5 tn5 ok5 => ?_) fun R hat he => ?_)
  rotate_left
  · rw [at2] at hat
    injection hat with hat
    subst hat
    exact absurd z2_err he
  rw [at2] at hat
  injection hat with hat
  subst hat
  obtain ⟨w5, _, _, _, i5⟩ := tn5
  have i5' : IsT w5 H5 t (c.F n_troop_New_F1) z3 := i5
  have ok5' : z3.ok 3 := ok5
  simp -implicitDefEqProofs []
  refine call_of (deliver_ok c hc hN hL i5' ok5' fun H6 tn6 ok6 => ?_)
  obtain ⟨w6, _, _, _, i6⟩ := tn6
  have i6' : IsT w6 H6 t (c.F n_troop_New_F1) z4 := i6
  have ok6' : z4.ok 3 := ok6
  have a0 : z4.at 0 = some ((z4.R[0]?).getD rp0) := at_get (i := 0) (by rw [z4_len]; omega) rp0
  have a1 : z4.at 1 = some ((z4.R[1]?).getD rp0) := at_get (i := 1) (by rw [z4_len]; omega) rp0
  have a2 : z4.at 2 = some ((z4.R[2]?).getD rp0) := at_get (i := 2) (by rw [z4_len]; omega) rp0
  have a3 : z4.at 3 = none := by
    have := z4_len
    unfold Tp.at
    rw [if_pos (by omega)]
    exact List.getElem?_eq_none (by rw [this]; decide)
  have one : ∀ (HX : IHeap) (b : Nat), HX.get b = some (.cells [.string sv] false) → b < HX.next → SlR HX 1 (.slice (some ⟨b, 0, none⟩) 1 1) (([sv] : List ByteArray).map rowT1) := by
    intro HX b hg hb
    refine ⟨_, 1, rfl, fun _ => ⟨b, 0, _, false, rfl, hb, hg, fun j r hj => ?_⟩⟩
    match j, hj with
    | 0, hj => simp [rowT1] at hj; subst hj; exact ⟨rfl, rfl, Nat.le_refl _⟩
    | j + 1, hj => simp at hj
  simp -implicitDefEqProofs []
  refine call_of (TLeads_ok c hc hN i6' (fun h => by rw [a0] at h; cases h) fun R hat => ?_)
  rw [a0] at hat
  injection hat with hat
  subst hat
  rw [z4_leads]
  simp -implicitDefEqProofs []
  refine call_of (TLog_ok c hc hN i6' (fun h => by rw [a0] at h; cases h) fun R hat v7 H7 k7 g7 => ?_)
  rw [a0] at hat
  injection hat with hat
  subst hat
  rw [z4_log0] at g7
  obtain ⟨H8, hH8⟩ : ∃ X : IHeap, X = H7.alloc (.cells [.string sv] false) := ⟨_, rfl⟩
  have k8 : H7.le H8 := by rw [hH8]; exact H7.le_alloc _
  have b8 : H8.get H7.next = some (.cells [.string sv] false) := by rw [hH8, YV, if_pos rfl]
  have n8 : H8.next = H7.next + 1 := by rw [hH8]; rfl
  have hH8' : H7.alloc (.cells [.string ⟨#[118]⟩] false) = H8 := by rw [hH8]; rfl
  simp -implicitDefEqProofs [hH8']
  refine call_of (refTexts01_ok c hR (l := [sv]) (m := [sv]) (g7.le k8).slr (one H8 _ b8 (by omega)) (by simp) ?_)
  have i8 := (i6'.le k7).le k8
  simp -implicitDefEqProofs []
  refine call_of (TLog_ok c hc hN i8 (fun h => by rw [a2] at h; cases h) fun R hat v9 H9 k9 g9 => ?_)
  rw [a2] at hat
  injection hat with hat
  subst hat
  rw [z4_log2] at g9
  obtain ⟨H10, hH10⟩ : ∃ X : IHeap, X = H9.alloc (.cells [.string sv] false) := ⟨_, rfl⟩
  have k10 : H9.le H10 := by rw [hH10]; exact H9.le_alloc _
  have b10 : H10.get H9.next = some (.cells [.string sv] false) := by rw [hH10, YV, if_pos rfl]
  have n10 : H10.next = H9.next + 1 := by rw [hH10]; rfl
  have hH10' : H9.alloc (.cells [.string ⟨#[118]⟩] false) = H10 := by rw [hH10]; rfl
  simp -implicitDefEqProofs [hH10']
  refine call_of (refTexts01_ok c hR (l := [sv]) (m := [sv]) (g9.le k10).slr (one H10 _ b10 (by omega)) (by simp) ?_)
  have i10 := (i8.le k9).le k10
  simp -implicitDefEqProofs []
  refine call_of (TLead_ok c hc hN (n := 3) i10 ok6' (fun _ => ?_) fun R hat => by rw [a3] at hat; cases hat)
  simp -implicitDefEqProofs []
  refine call_of (TPropose_ok c hc hN (s := sx2) i10 ok6' (fun h => by rw [a1] at h; cases h) (fun R hat he => ?_) fun R hat he H11 tn11 => ?_)
  · rw [a1] at hat
    injection hat with hat
    subst hat
    rw [z4_err] at he
    cases he
  · rw [a1] at hat
    injection hat with hat
    subst hat
    rw [z4_err]
    obtain ⟨w11, _, _, _, i11⟩ := tn11
    simp -implicitDefEqProofs []
    refine call_of (TDeliver_ok c hc hN (i := 0) i11 ok6' (fun _ H12 _ => ?_) fun a x R _ hx => by rw [z4_way] at hx; simp at hx)
    simp -implicitDefEqProofs []
    exact hK _

theorem TLead_none (hc : HasTroop c) {i : Int} (hK : K (.bool false) H) : c.C (c.F n_troop_Troop_Lead) [.pointer none, .int .i64 i] H K := by
  refine c.enter hc.troop_Troop_Lead rfl ?_
  simp -implicitDefEqProofs [c_troop_Troop_Lead]
  refine call_of (Tnode_none c hc ?_)
  simp -implicitDefEqProofs []
  exact hK
theorem TPropose_none (hc : HasTroop c) {i : Int} {s : ByteArray} (hK : K (.int .i64 1) H) : c.C (c.F n_troop_Troop_Propose) [.pointer none, .int .i64 i, .string s] H K := by
  refine c.enter hc.troop_Troop_Propose rfl ?_
  simp -implicitDefEqProofs [c_troop_Troop_Propose]
  refine call_of (Tnode_none c hc ?_)
  simp -implicitDefEqProofs []
  exact hK
theorem TAsk_none (hc : HasTroop c) {i j : Int} (hK : K (.bool false) H) : c.C (c.F n_troop_Troop_Ask) [.pointer none, .int .i64 i, .int .i64 j] H K := by
  refine c.enter hc.troop_Troop_Ask rfl ?_
  simp -implicitDefEqProofs [c_troop_Troop_Ask]
  refine call_of (Tnode_none c hc ?_)
  simp -implicitDefEqProofs []
  exact hK
theorem TDeliver_none (hc : HasTroop c) {i : Int} (hK : K (.bool false) H) : c.C (c.F n_troop_Troop_Deliver) [.pointer none, .int .i64 i] H K := by
  refine c.enter hc.troop_Troop_Deliver rfl ?_
  simp -implicitDefEqProofs [c_troop_Troop_Deliver, nilOf]
  exact hK
theorem TDrop_none (hc : HasTroop c) {i : Int} (hK : K (.bool false) H) : c.C (c.F n_troop_Troop_Drop) [.pointer none, .int .i64 i] H K := by
  refine c.enter hc.troop_Troop_Drop rfl ?_
  simp -implicitDefEqProofs [c_troop_Troop_Drop, nilOf]
  exact hK
theorem TDouble_none (hc : HasTroop c) {i : Int} (hK : K (.bool false) H) : c.C (c.F n_troop_Troop_Double) [.pointer none, .int .i64 i] H K := by
  refine c.enter hc.troop_Troop_Double rfl ?_
  simp -implicitDefEqProofs [c_troop_Troop_Double, nilOf]
  exact hK
theorem TCrash_none (hc : HasTroop c) {i : Int} (hK : K (.bool false) H) : c.C (c.F n_troop_Troop_Crash) [.pointer none, .int .i64 i] H K := by
  refine c.enter hc.troop_Troop_Crash rfl ?_
  simp -implicitDefEqProofs [c_troop_Troop_Crash]
  refine call_of (Tnode_none c hc ?_)
  simp -implicitDefEqProofs []
  exact hK
theorem TLog_none (hc : HasTroop c) {i : Int} (hK : K (.slice none 0 0) H) : c.C (c.F n_troop_Troop_Log) [.pointer none, .int .i64 i] H K := by
  refine c.enter hc.troop_Troop_Log rfl ?_
  simp -implicitDefEqProofs [c_troop_Troop_Log]
  refine call_of (Tnode_none c hc ?_)
  simp -implicitDefEqProofs []
  exact hK
theorem TWaiting_none (hc : HasTroop c) (hK : K (.int .i64 0) H) : c.C (c.F n_troop_Troop_Waiting) [.pointer none] H K := by
  refine c.enter hc.troop_Troop_Waiting rfl ?_
  simp -implicitDefEqProofs [c_troop_Troop_Waiting, nilOf]
  exact hK
theorem TLeads_none (hc : HasTroop c) {i : Int} (hK : K (.bool false) H) : c.C (c.F n_troop_Troop_Leads) [.pointer none, .int .i64 i] H K := by
  refine c.enter hc.troop_Troop_Leads rfl ?_
  simp -implicitDefEqProofs [c_troop_Troop_Leads]
  refine call_of (Tnode_none c hc ?_)
  simp -implicitDefEqProofs []
  exact hK

include hc hL in
theorem none_ok22 (hW : ∀ H K, (∀ H', K (.bool true) H') → c.C (c.F n_hurdlelaw22_awake) [] H K) {k a b : Int} {x : ByteArray} (hK : ∀ H', K (.bool true) H') :
    c.C (c.F n_hurdlelaw22_TroopNone) [.agg #[.int .i64 k, .int .i64 a, .int .i64 b, .string x]] H K := by
  refine c.enter hL.hurdlelaw22_TroopNone rfl ?_
  obtain ⟨H0, hH0⟩ : ∃ X : IHeap, X = H.alloc (.cells [.int .i64 k, .int .i64 a, .int .i64 b, .string x] false) := ⟨_, rfl⟩
  have b0 : H0.get H.next = some (.cells [.int .i64 k, .int .i64 a, .int .i64 b, .string x] false) := by rw [hH0, YV, if_pos rfl]
  simp -implicitDefEqProofs [c_hurdlelaw22_TroopNone, ← hH0, b0]
  refine call_of (TLead_none c hc ?_)
  simp -implicitDefEqProofs [b0]
  refine call_of (TPropose_none c hc ?_)
  simp -implicitDefEqProofs [b0]
  refine call_of (TAsk_none c hc ?_)
  simp -implicitDefEqProofs [b0]
  refine call_of (TDeliver_none c hc ?_)
  simp -implicitDefEqProofs [b0]
  refine call_of (TDrop_none c hc ?_)
  simp -implicitDefEqProofs [b0]
  refine call_of (TDouble_none c hc ?_)
  simp -implicitDefEqProofs [b0]
  refine call_of (TCrash_none c hc ?_)
  simp -implicitDefEqProofs [b0]
  refine call_of (TLog_none c hc ?_)
  simp -implicitDefEqProofs [b0]
  refine call_of (TWaiting_none c hc ?_)
  simp -implicitDefEqProofs [b0]
  refine call_of (TLeads_none c hc ?_)
  simp -implicitDefEqProofs []
  refine call_of (hW _ _ fun H' => ?_)
  simp -implicitDefEqProofs []
  exact hK _
end
end Go.Proofs.YtpbbjfighohokaaI
