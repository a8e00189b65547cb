/- PRINTED by gen.py (this session's own): the intermediate form of some functions, and a context's having them. -/
import Derived.Test.YtdfjicnjcibdaaaIdealZ
namespace Go.Proofs.YtdfjicnjcibdaaaI
set_option linter.unusedSimpArgs false
set_option linter.unusedVariables false
open Go

/-- hurdle/hurdlelaw26.UsagePlays -/
abbrev n_hurdlelaw26_UsagePlays : Nat := 269
/-- hurdle/hurdlelaw26.UsageScores -/
abbrev n_hurdlelaw26_UsageScores : Nat := 270
/-- hurdle/hurdlelaw26.UsageBest -/
abbrev n_hurdlelaw26_UsageBest : Nat := 271
/-- hurdle/hurdlelaw26.UsageEmptier -/
abbrev n_hurdlelaw26_UsageEmptier : Nat := 272
/-- hurdle/hurdlelaw26.UsageNone -/
abbrev n_hurdlelaw26_UsageNone : Nat := 273
/-- hurdle/hurdlelaw26.awake -/
abbrev n_hurdlelaw26_awake : Nat := 274
/-- hurdle/hurdlelaw26.UsagePlays -/
def c_hurdlelaw26_UsagePlays (F : Nat → FuncId) (Ty : Nat → TypeId) : IFunc := ⟨156, [.tmp 4],
 .seq (.ops [⟨some 4, .move (.const (.bool false)), none⟩])
 (.seq (.seq (.ops [⟨some 20, .move (.tmp 0), none⟩,
 ⟨some 21, .lenSl (.tmp 20), none⟩,
 ⟨some 22, .bin .gtr (.tmp 21) (.const (.int .i64 80)), none⟩])
 (.cond (.tmp 22)
 (.seq (.ops [⟨some 23, .call (F 274) [], none⟩,
 ⟨some 4, .move (.tmp 23), none⟩])
 (.ret))
 (.skip)))
 (.seq (.ops [⟨some 24, .call (F 237) [], none⟩,
 ⟨some 5, .move (.tmp 24), none⟩])
 (.seq (.ops [⟨some 6, .move (.const (.slice none 0 0)), none⟩])
 (.seq (.seq (.ops [⟨some 7, .move (.const (.int .i64 0)), none⟩])
 (.block 0 (.loop (.seq (.seq (.ops [⟨some 25, .move (.tmp 7), none⟩,
 ⟨some 26, .move (.tmp 0), none⟩,
 ⟨some 27, .lenSl (.tmp 26), none⟩,
 ⟨some 28, .bin .lss (.tmp 25) (.tmp 27), none⟩])
 (.cond (.tmp 28)
 (.skip)
 (.exit 0)))
 (.seq (.block 1 (.seq (.ops [⟨some 8, .move (.const (.bool true)), none⟩])
 (.seq (.ops [⟨some 31, .move (.tmp 0), none⟩,
 ⟨some 32, .move (.tmp 7), none⟩,
 ⟨some 33, .idxSl 6 (.tmp 31) (.tmp 32), none⟩,
 ⟨some 34, .fieldAddr 2 (.tmp 33), none⟩,
 ⟨some 35, .loadN 4 (.tmp 34), none⟩,
 ⟨some 9, .alloc [.int .i64 0, .int .i64 0, .int .i64 0, .int .i64 0], none⟩,
 ⟨none, .store 4 (.tmp 9) (.tmp 35), none⟩])
 (.seq (.seq (.ops [⟨some 36, .move (.tmp 0), none⟩,
 ⟨some 37, .move (.tmp 7), none⟩,
 ⟨some 38, .idxSl 6 (.tmp 36) (.tmp 37), none⟩,
 ⟨some 39, .fieldAddr 0 (.tmp 38), none⟩,
 ⟨some 40, .load1 (.tmp 39), none⟩])
 (.block 2 (.seq (.ops [⟨some 42, .bin .eql (.tmp 40) (.const (.int .i64 0)), none⟩,
 ⟨some 41, .move (.tmp 42), none⟩])
 (.cond (.tmp 41)
 (.seq (.ops [⟨some 44, .move (.tmp 6), none⟩,
 ⟨some 45, .fieldAddr 0 (.tmp 9), none⟩,
 ⟨some 46, .load1 (.tmp 45), none⟩,
 ⟨some 47, .fieldAddr 1 (.tmp 9), none⟩,
 ⟨some 48, .load1 (.tmp 47), none⟩,
 ⟨some 49, .fieldAddr 2 (.tmp 9), none⟩,
 ⟨some 50, .load1 (.tmp 49), none⟩,
 ⟨some 51, .fieldAddr 3 (.tmp 9), none⟩,
 ⟨some 52, .load1 (.tmp 51), none⟩,
 ⟨some 53, .call (F 261) [.tmp 44, .tmp 46, .tmp 48, .tmp 50, .tmp 52], none⟩,
 ⟨some 43, .move (.tmp 53), none⟩,
 ⟨some 54, .extract (.tmp 43) 0, none⟩,
 ⟨some 55, .extract (.tmp 43) 1, none⟩,
 ⟨some 10, .move (.tmp 54), none⟩,
 ⟨some 11, .move (.tmp 55), none⟩])
 (.seq (.ops [⟨some 56, .move (.tmp 10), none⟩,
 ⟨some 6, .move (.tmp 56), none⟩])
 (.ops [⟨some 57, .move (.tmp 5), none⟩,
 ⟨some 58, .fieldAddr 0 (.tmp 9), none⟩,
 ⟨some 59, .load1 (.tmp 58), none⟩,
 ⟨some 60, .fieldAddr 1 (.tmp 9), none⟩,
 ⟨some 61, .load1 (.tmp 60), none⟩,
 ⟨some 62, .fieldAddr 2 (.tmp 9), none⟩,
 ⟨some 63, .load1 (.tmp 62), none⟩,
 ⟨some 64, .fieldAddr 3 (.tmp 9), none⟩,
 ⟨some 65, .load1 (.tmp 64), none⟩,
 ⟨some 66, .call (F 243) [.tmp 57, .tmp 59, .tmp 61, .tmp 63, .tmp 65], none⟩,
 ⟨some 67, .move (.tmp 11), none⟩,
 ⟨some 68, .bin .eql (.tmp 66) (.tmp 67), none⟩,
 ⟨some 8, .move (.tmp 68), none⟩])))
 (.seq (.ops [⟨some 70, .bin .eql (.tmp 40) (.const (.int .i64 1)), none⟩,
 ⟨some 69, .move (.tmp 70), none⟩])
 (.cond (.tmp 69)
 (.seq (.draw [(⟨some 72, .move (.tmp 6), none⟩, []),
 (⟨some 73, .fieldAddr 0 (.tmp 9), none⟩, []),
 (⟨some 74, .load1 (.tmp 73), none⟩, []),
 (⟨some 75, .move (.tmp 0), none⟩, []),
 (⟨some 76, .move (.tmp 7), none⟩, []),
 (⟨some 77, .idxSl 6 (.tmp 75) (.tmp 76), none⟩, []),
 (⟨some 78, .fieldAddr 1 (.tmp 77), none⟩, []),
 (⟨some 79, .load1 (.tmp 78), none⟩, []),
 (⟨some 80, .call (F 262) [.tmp 72, .tmp 74, .tmp 79], none⟩, []),
 (⟨some 71, .move (.tmp 80), none⟩, []),
 (⟨some 81, .extract (.tmp 71) 0, none⟩, []),
 (⟨some 82, .extract (.tmp 71) 1, none⟩, []),
 (⟨some 12, .move (.tmp 81), none⟩, []),
 (⟨some 13, .move (.tmp 82), none⟩, [])])
 (.seq (.ops [⟨some 83, .move (.tmp 12), none⟩,
 ⟨some 6, .move (.tmp 83), none⟩])
 (.draw [(⟨some 84, .move (.tmp 5), none⟩, []),
 (⟨some 85, .fieldAddr 0 (.tmp 9), none⟩, []),
 (⟨some 86, .load1 (.tmp 85), none⟩, []),
 (⟨some 87, .move (.tmp 0), none⟩, []),
 (⟨some 88, .move (.tmp 7), none⟩, []),
 (⟨some 89, .idxSl 6 (.tmp 87) (.tmp 88), none⟩, []),
 (⟨some 90, .fieldAddr 1 (.tmp 89), none⟩, []),
 (⟨some 91, .load1 (.tmp 90), none⟩, []),
 (⟨some 93, .move (.tmp 13), none⟩, []),
 (⟨some 92, .call (F 245) [.tmp 84, .tmp 86, .tmp 91], none⟩, []),
 (⟨some 94, .bin .eql (.tmp 92) (.tmp 93), none⟩, []),
 (⟨some 8, .move (.tmp 94), none⟩, [])])))
 (.seq (.ops [⟨some 96, .bin .eql (.tmp 40) (.const (.int .i64 2)), none⟩,
 ⟨some 95, .move (.tmp 96), none⟩])
 (.cond (.tmp 95)
 (.seq (.ops [⟨some 98, .move (.tmp 6), none⟩,
 ⟨some 99, .fieldAddr 0 (.tmp 9), none⟩,
 ⟨some 100, .load1 (.tmp 99), none⟩,
 ⟨some 101, .call (F 263) [.tmp 98, .tmp 100], none⟩,
 ⟨some 97, .move (.tmp 101), none⟩,
 ⟨some 102, .extract (.tmp 97) 0, none⟩,
 ⟨some 103, .extract (.tmp 97) 1, none⟩,
 ⟨some 14, .move (.tmp 102), none⟩,
 ⟨some 15, .move (.tmp 103), none⟩])
 (.seq (.ops [⟨some 104, .move (.tmp 14), none⟩,
 ⟨some 6, .move (.tmp 104), none⟩])
 (.ops [⟨some 105, .move (.tmp 5), none⟩,
 ⟨some 106, .fieldAddr 0 (.tmp 9), none⟩,
 ⟨some 107, .load1 (.tmp 106), none⟩,
 ⟨some 108, .call (F 246) [.tmp 105, .tmp 107], none⟩,
 ⟨some 109, .move (.tmp 15), none⟩,
 ⟨some 110, .eqv false [] (.tmp 108) (.tmp 109), none⟩,
 ⟨some 8, .move (.tmp 110), none⟩])))
 (.skip)))))))))
 (.seq (.ops [⟨some 112, .move (.tmp 5), none⟩,
 ⟨some 113, .move (.tmp 1), none⟩,
 ⟨some 114, .call (F 248) [.tmp 112, .tmp 113], none⟩,
 ⟨some 111, .move (.tmp 114), none⟩,
 ⟨some 115, .extract (.tmp 111) 0, none⟩,
 ⟨some 116, .extract (.tmp 111) 1, none⟩,
 ⟨some 16, .move (.tmp 115), none⟩,
 ⟨some 17, .move (.tmp 116), none⟩])
 (.seq (.ops [⟨some 118, .move (.tmp 6), none⟩,
 ⟨some 119, .move (.tmp 1), none⟩,
 ⟨some 120, .call (F 265) [.tmp 118, .tmp 119], none⟩,
 ⟨some 117, .move (.tmp 120), none⟩,
 ⟨some 121, .extract (.tmp 117) 0, none⟩,
 ⟨some 122, .extract (.tmp 117) 1, none⟩,
 ⟨some 18, .move (.tmp 121), none⟩,
 ⟨some 19, .move (.tmp 122), none⟩])
 (.seq (.ops [⟨some 123, .move (.tmp 8), none⟩,
 ⟨some 124, .un .not (.tmp 123), none⟩,
 ⟨some 125, .move (.tmp 124), none⟩,
 ⟨some 126, .move (.tmp 16), some (125, false)⟩,
 ⟨some 127, .move (.tmp 18), some (125, false)⟩,
 ⟨some 128, .bin .neq (.tmp 126) (.tmp 127), some (125, false)⟩,
 ⟨some 129, .pick (.tmp 125) (.const (.bool true)) (.tmp 128), none⟩,
 ⟨some 130, .move (.tmp 129), none⟩,
 ⟨some 131, .move (.tmp 17), some (130, false)⟩,
 ⟨some 132, .move (.tmp 19), some (130, false)⟩,
 ⟨some 133, .eqv true [] (.tmp 131) (.tmp 132), some (130, false)⟩,
 ⟨some 134, .pick (.tmp 130) (.const (.bool true)) (.tmp 133), none⟩,
 ⟨some 135, .move (.tmp 134), none⟩,
 ⟨some 136, .move (.tmp 5), some (135, false)⟩,
 ⟨some 137, .call (F 251) [.tmp 136], some (135, false)⟩,
 ⟨some 138, .move (.tmp 6), some (135, false)⟩,
 ⟨some 139, .call (F 267) [.tmp 138], some (135, false)⟩,
 ⟨some 140, .bin .neq (.tmp 137) (.tmp 139), some (135, false)⟩,
 ⟨some 141, .pick (.tmp 135) (.const (.bool true)) (.tmp 140), none⟩])
 (.cond (.tmp 141)
 (.seq (.ops [⟨some 4, .move (.const (.bool false)), none⟩])
 (.ret))
 (.skip)))))))))
 (.ops [⟨some 29, .move (.tmp 7), none⟩,
 ⟨some 30, .bin .add (.tmp 29) (.const (.int .i64 1)), none⟩,
 ⟨some 7, .move (.tmp 30), none⟩]))))))
 (.seq (.ops [⟨some 142, .move (.tmp 5), none⟩,
 ⟨some 143, .call (F 250) [.tmp 142], none⟩,
 ⟨some 144, .move (.tmp 6), none⟩,
 ⟨some 145, .call (F 268) [.tmp 143, .tmp 144], none⟩,
 ⟨some 146, .move (.tmp 145), none⟩,
 ⟨some 147, .move (.tmp 5), some (146, true)⟩,
 ⟨some 148, .call (F 249) [.tmp 147], some (146, true)⟩,
 ⟨some 149, .move (.tmp 6), some (146, true)⟩,
 ⟨some 150, .call (F 266) [.tmp 149], some (146, true)⟩,
 ⟨some 151, .call (F 69) [.tmp 148, .tmp 150], some (146, true)⟩,
 ⟨some 152, .pick (.tmp 146) (.tmp 151) (.const (.bool false)), none⟩,
 ⟨some 153, .move (.tmp 152), none⟩,
 ⟨some 154, .call (F 274) [], some (153, true)⟩,
 ⟨some 155, .pick (.tmp 153) (.tmp 154) (.const (.bool false)), none⟩,
 ⟨some 4, .move (.tmp 155), none⟩])
 (.ret))))))⟩
/-- hurdle/hurdlelaw26.UsageScores -/
def c_hurdlelaw26_UsageScores (F : Nat → FuncId) (Ty : Nat → TypeId) : IFunc := ⟨15, [.tmp 4],
 .seq (.ops [⟨some 2, .box (.tmp 0), none⟩,
 ⟨some 4, .move (.const (.bool false)), none⟩])
 (.seq (.draw [(⟨some 5, .loadN 4 (.tmp 2), none⟩, []),
 (⟨some 6, .move (.tmp 1), none⟩, []),
 (⟨some 8, .loadN 4 (.tmp 2), none⟩, []),
 (⟨some 9, .move (.tmp 1), none⟩, []),
 (⟨some 7, .call (F 247) [.tmp 5, .tmp 6], none⟩, [⟨some 8, .loadN 4 (.tmp 2), none⟩]),
 (⟨some 10, .call (F 264) [.tmp 8, .tmp 9], none⟩, []),
 (⟨some 11, .bin .eql (.tmp 7) (.tmp 10), none⟩, []),
 (⟨some 12, .move (.tmp 11), none⟩, []),
 (⟨some 13, .call (F 274) [], some (12, true)⟩, []),
 (⟨some 14, .pick (.tmp 12) (.tmp 13) (.const (.bool false)), none⟩, []),
 (⟨some 4, .move (.tmp 14), none⟩, [])])
 (.ret))⟩
/-- hurdle/hurdlelaw26.UsageBest -/
def c_hurdlelaw26_UsageBest (F : Nat → FuncId) (Ty : Nat → TypeId) : IFunc := ⟨142, [.tmp 4],
 .seq (.ops [⟨some 4, .move (.const (.bool false)), none⟩])
 (.seq (.seq (.ops [⟨some 14, .move (.tmp 0), none⟩,
 ⟨some 15, .lenSl (.tmp 14), none⟩,
 ⟨some 16, .bin .gtr (.tmp 15) (.const (.int .i64 80)), none⟩])
 (.cond (.tmp 16)
 (.seq (.ops [⟨some 17, .call (F 274) [], none⟩,
 ⟨some 4, .move (.tmp 17), none⟩])
 (.ret))
 (.skip)))
 (.seq (.ops [⟨some 18, .call (F 237) [], none⟩,
 ⟨some 5, .move (.tmp 18), none⟩])
 (.seq (.seq (.ops [⟨some 6, .move (.const (.int .i64 0)), none⟩])
 (.block 0 (.loop (.seq (.seq (.ops [⟨some 19, .move (.tmp 6), none⟩,
 ⟨some 20, .move (.tmp 0), none⟩,
 ⟨some 21, .lenSl (.tmp 20), none⟩,
 ⟨some 22, .bin .lss (.tmp 19) (.tmp 21), none⟩])
 (.cond (.tmp 22)
 (.skip)
 (.exit 0)))
 (.seq (.block 1 (.seq (.ops [⟨some 25, .move (.tmp 0), none⟩,
 ⟨some 26, .move (.tmp 6), none⟩,
 ⟨some 27, .idxSl 6 (.tmp 25) (.tmp 26), none⟩,
 ⟨some 28, .fieldAddr 2 (.tmp 27), none⟩,
 ⟨some 29, .loadN 4 (.tmp 28), none⟩,
 ⟨some 7, .alloc [.int .i64 0, .int .i64 0, .int .i64 0, .int .i64 0], none⟩,
 ⟨none, .store 4 (.tmp 7) (.tmp 29), none⟩])
 (.seq (.ops [⟨some 30, .move (.tmp 5), none⟩,
 ⟨some 31, .fieldAddr 0 (.tmp 7), none⟩,
 ⟨some 32, .load1 (.tmp 31), none⟩,
 ⟨some 33, .fieldAddr 1 (.tmp 7), none⟩,
 ⟨some 34, .load1 (.tmp 33), none⟩,
 ⟨some 35, .fieldAddr 2 (.tmp 7), none⟩,
 ⟨some 36, .load1 (.tmp 35), none⟩,
 ⟨some 37, .fieldAddr 3 (.tmp 7), none⟩,
 ⟨some 38, .load1 (.tmp 37), none⟩,
 ⟨some 39, .call (F 243) [.tmp 30, .tmp 32, .tmp 34, .tmp 36, .tmp 38], none⟩])
 (.draw [(⟨some 40, .move (.tmp 5), none⟩, []),
 (⟨some 41, .fieldAddr 0 (.tmp 7), none⟩, []),
 (⟨some 42, .load1 (.tmp 41), none⟩, []),
 (⟨some 43, .move (.tmp 0), none⟩, []),
 (⟨some 44, .move (.tmp 6), none⟩, []),
 (⟨some 45, .idxSl 6 (.tmp 43) (.tmp 44), none⟩, []),
 (⟨some 46, .fieldAddr 1 (.tmp 45), none⟩, []),
 (⟨some 47, .load1 (.tmp 46), none⟩, []),
 (⟨some 48, .call (F 245) [.tmp 40, .tmp 42, .tmp 47], none⟩, [])]))))
 (.ops [⟨some 23, .move (.tmp 6), none⟩,
 ⟨some 24, .bin .add (.tmp 23) (.const (.int .i64 1)), none⟩,
 ⟨some 6, .move (.tmp 24), none⟩]))))))
 (.seq (.ops [⟨some 49, .move (.tmp 5), none⟩,
 ⟨some 50, .call (F 250) [.tmp 49], none⟩,
 ⟨some 8, .move (.tmp 50), none⟩])
 (.seq (.ops [⟨some 52, .move (.tmp 5), none⟩,
 ⟨some 53, .move (.tmp 1), none⟩,
 ⟨some 54, .call (F 248) [.tmp 52, .tmp 53], none⟩,
 ⟨some 51, .move (.tmp 54), none⟩,
 ⟨some 55, .extract (.tmp 51) 0, none⟩,
 ⟨some 56, .extract (.tmp 51) 1, none⟩,
 ⟨some 9, .move (.tmp 55), none⟩,
 ⟨some 10, .move (.tmp 56), none⟩])
 (.seq (.ops [⟨some 11, .move (.const (.bool false)), none⟩])
 (.seq (.seq (.ops [⟨some 12, .move (.const (.int .i64 0)), none⟩])
 (.block 2 (.loop (.seq (.seq (.ops [⟨some 57, .move (.tmp 12), none⟩,
 ⟨some 58, .move (.tmp 8), none⟩,
 ⟨some 59, .lenSl (.tmp 58), none⟩,
 ⟨some 60, .bin .lss (.tmp 57) (.tmp 59), none⟩])
 (.cond (.tmp 60)
 (.skip)
 (.exit 2)))
 (.seq (.block 3 (.seq (.seq (.draw [(⟨some 63, .move (.tmp 8), none⟩, []),
 (⟨some 64, .move (.tmp 12), none⟩, []),
 (⟨some 65, .idxSl 4 (.tmp 63) (.tmp 64), none⟩, []),
 (⟨some 66, .fieldAddr 2 (.tmp 65), none⟩, []),
 (⟨some 67, .load1 (.tmp 66), none⟩, []),
 (⟨some 68, .move (.tmp 8), none⟩, []),
 (⟨some 69, .move (.tmp 12), none⟩, []),
 (⟨some 70, .idxSl 4 (.tmp 68) (.tmp 69), none⟩, []),
 (⟨some 71, .fieldAddr 1 (.tmp 70), none⟩, []),
 (⟨some 72, .load1 (.tmp 71), none⟩, []),
 (⟨some 73, .bin .eql (.tmp 67) (.tmp 72), none⟩, [])])
 (.cond (.tmp 73)
 (.seq (.seq (.ops [⟨some 74, .move (.tmp 10), none⟩,
 ⟨some 75, .move (.tmp 74), none⟩,
 ⟨some 76, .move (.tmp 9), some (75, true)⟩,
 ⟨some 77, .move (.tmp 8), some (75, true)⟩,
 ⟨some 78, .move (.tmp 12), some (75, true)⟩,
 ⟨some 79, .idxSl 4 (.tmp 77) (.tmp 78), some (75, true)⟩,
 ⟨some 80, .fieldAddr 0 (.tmp 79), some (75, true)⟩,
 ⟨some 81, .load1 (.tmp 80), some (75, true)⟩,
 ⟨some 82, .bin .eql (.tmp 76) (.tmp 81), some (75, true)⟩,
 ⟨some 83, .pick (.tmp 75) (.tmp 82) (.const (.bool false)), none⟩])
 (.cond (.tmp 83)
 (.seq (.ops [⟨some 4, .move (.const (.bool false)), none⟩])
 (.ret))
 (.skip)))
 (.exit 3))
 (.skip)))
 (.seq (.ops [⟨some 11, .move (.const (.bool true)), none⟩])
 (.seq (.ops [⟨some 13, .move (.const (.int .i64 0)), none⟩])
 (.block 4 (.loop (.seq (.seq (.ops [⟨some 84, .move (.tmp 13), none⟩,
 ⟨some 85, .move (.tmp 8), none⟩,
 ⟨some 86, .lenSl (.tmp 85), none⟩,
 ⟨some 87, .bin .lss (.tmp 84) (.tmp 86), none⟩])
 (.cond (.tmp 87)
 (.skip)
 (.exit 4)))
 (.seq (.block 5 (.seq (.draw [(⟨some 90, .move (.tmp 8), none⟩, []),
 (⟨some 91, .move (.tmp 13), none⟩, []),
 (⟨some 92, .idxSl 4 (.tmp 90) (.tmp 91), none⟩, []),
 (⟨some 93, .fieldAddr 0 (.tmp 92), none⟩, []),
 (⟨some 94, .load1 (.tmp 93), none⟩, []),
 (⟨some 95, .move (.tmp 9), none⟩, []),
 (⟨some 96, .bin .eql (.tmp 94) (.tmp 95), none⟩, []),
 (⟨some 97, .move (.tmp 96), none⟩, []),
 (⟨some 98, .move (.tmp 8), some (97, true)⟩, []),
 (⟨some 99, .move (.tmp 12), some (97, true)⟩, []),
 (⟨some 100, .idxSl 4 (.tmp 98) (.tmp 99), some (97, true)⟩, []),
 (⟨some 101, .loadN 4 (.tmp 100), some (97, true)⟩, []),
 (⟨some 102, .move (.tmp 1), some (97, true)⟩, []),
 (⟨some 104, .move (.tmp 8), some (97, true)⟩, []),
 (⟨some 105, .move (.tmp 13), some (97, true)⟩, []),
 (⟨some 106, .idxSl 4 (.tmp 104) (.tmp 105), some (97, true)⟩, []),
 (⟨some 107, .loadN 4 (.tmp 106), some (97, true)⟩, []),
 (⟨some 108, .move (.tmp 1), some (97, true)⟩, []),
 (⟨some 103, .call (F 247) [.tmp 101, .tmp 102], some (97, true)⟩, [⟨some 107, .loadN 4 (.tmp 106), some (97, true)⟩]),
 (⟨some 109, .call (F 247) [.tmp 107, .tmp 108], some (97, true)⟩, []),
 (⟨some 110, .bin .gtr (.tmp 103) (.tmp 109), some (97, true)⟩, []),
 (⟨some 111, .move (.tmp 110), some (97, true)⟩, []),
 (⟨some 112, .move (.tmp 8), some (111, false)⟩, []),
 (⟨some 113, .move (.tmp 12), some (111, false)⟩, []),
 (⟨some 114, .idxSl 4 (.tmp 112) (.tmp 113), some (111, false)⟩, []),
 (⟨some 115, .loadN 4 (.tmp 114), some (111, false)⟩, []),
 (⟨some 116, .move (.tmp 1), some (111, false)⟩, []),
 (⟨some 118, .move (.tmp 8), some (111, false)⟩, []),
 (⟨some 119, .move (.tmp 13), some (111, false)⟩, []),
 (⟨some 120, .idxSl 4 (.tmp 118) (.tmp 119), some (111, false)⟩, []),
 (⟨some 121, .loadN 4 (.tmp 120), some (111, false)⟩, []),
 (⟨some 122, .move (.tmp 1), some (111, false)⟩, []),
 (⟨some 117, .call (F 247) [.tmp 115, .tmp 116], some (111, false)⟩, [⟨some 121, .loadN 4 (.tmp 120), some (111, false)⟩]),
 (⟨some 123, .call (F 247) [.tmp 121, .tmp 122], some (111, false)⟩, []),
 (⟨some 124, .bin .eql (.tmp 117) (.tmp 123), some (111, false)⟩, []),
 (⟨some 125, .move (.tmp 124), some (111, false)⟩, []),
 (⟨some 126, .move (.tmp 8), some (125, true)⟩, []),
 (⟨some 127, .move (.tmp 12), some (125, true)⟩, []),
 (⟨some 128, .idxSl 4 (.tmp 126) (.tmp 127), some (125, true)⟩, []),
 (⟨some 129, .fieldAddr 0 (.tmp 128), some (125, true)⟩, []),
 (⟨some 130, .load1 (.tmp 129), some (125, true)⟩, []),
 (⟨some 131, .move (.tmp 9), some (125, true)⟩, []),
 (⟨some 132, .bin .lss (.tmp 130) (.tmp 131), some (125, true)⟩, []),
 (⟨some 133, .pick (.tmp 125) (.tmp 132) (.const (.bool false)), some (111, false)⟩, []),
 (⟨some 134, .pick (.tmp 111) (.const (.bool true)) (.tmp 133), some (97, true)⟩, []),
 (⟨some 135, .pick (.tmp 97) (.tmp 134) (.const (.bool false)), none⟩, [])])
 (.cond (.tmp 135)
 (.seq (.ops [⟨some 4, .move (.const (.bool false)), none⟩])
 (.ret))
 (.skip))))
 (.ops [⟨some 88, .move (.tmp 13), none⟩,
 ⟨some 89, .bin .add (.tmp 88) (.const (.int .i64 1)), none⟩,
 ⟨some 13, .move (.tmp 89), none⟩])))))))))
 (.ops [⟨some 61, .move (.tmp 12), none⟩,
 ⟨some 62, .bin .add (.tmp 61) (.const (.int .i64 1)), none⟩,
 ⟨some 12, .move (.tmp 62), none⟩]))))))
 (.seq (.ops [⟨some 136, .move (.tmp 10), none⟩,
 ⟨some 137, .move (.tmp 11), none⟩,
 ⟨some 138, .eqv false [] (.tmp 136) (.tmp 137), none⟩,
 ⟨some 139, .move (.tmp 138), none⟩,
 ⟨some 140, .call (F 274) [], some (139, true)⟩,
 ⟨some 141, .pick (.tmp 139) (.tmp 140) (.const (.bool false)), none⟩,
 ⟨some 4, .move (.tmp 141), none⟩])
 (.ret)))))))))⟩
/-- hurdle/hurdlelaw26.UsageEmptier -/
def c_hurdlelaw26_UsageEmptier (F : Nat → FuncId) (Ty : Nat → TypeId) : IFunc := ⟨89, [.tmp 6],
 .seq (.ops [⟨some 3, .box (.tmp 0), none⟩,
 ⟨some 6, .move (.const (.bool false)), none⟩])
 (.seq (.draw [(⟨some 9, .loadN 4 (.tmp 3), none⟩, []),
 (⟨some 10, .loadN 4 (.tmp 3), none⟩, []),
 (⟨some 7, .alloc [.int .i64 0, .int .i64 0, .int .i64 0, .int .i64 0], none⟩, []),
 (⟨some 8, .alloc [.int .i64 0, .int .i64 0, .int .i64 0, .int .i64 0], none⟩, []),
 (⟨none, .store 4 (.tmp 7) (.tmp 9), none⟩, [⟨some 10, .loadN 4 (.tmp 3), none⟩]),
 (⟨none, .store 4 (.tmp 8) (.tmp 10), none⟩, [])])
 (.seq (.ops [⟨some 11, .move (.tmp 1), none⟩,
 ⟨some 12, .fieldAddr 2 (.tmp 7), none⟩,
 ⟨none, .store 1 (.tmp 12) (.tmp 11), none⟩])
 (.seq (.ops [⟨some 13, .move (.tmp 1), none⟩,
 ⟨some 14, .fieldAddr 3 (.tmp 8), none⟩,
 ⟨none, .store 1 (.tmp 14) (.tmp 13), none⟩])
 (.seq (.seq (.ops [⟨some 15, .fieldAddr 1 (.tmp 3), none⟩,
 ⟨some 16, .load1 (.tmp 15), none⟩,
 ⟨some 17, .bin .lss (.tmp 16) (.const (.int .i64 1)), none⟩,
 ⟨some 18, .move (.tmp 17), none⟩,
 ⟨some 19, .fieldAddr 1 (.tmp 3), some (18, false)⟩,
 ⟨some 20, .load1 (.tmp 19), some (18, false)⟩,
 ⟨some 21, .bin .gtr (.tmp 20) (.const (.int .i64 65536)), some (18, false)⟩,
 ⟨some 22, .pick (.tmp 18) (.const (.bool true)) (.tmp 21), none⟩,
 ⟨some 23, .move (.tmp 22), none⟩,
 ⟨some 24, .fieldAddr 2 (.tmp 3), some (23, false)⟩,
 ⟨some 25, .load1 (.tmp 24), some (23, false)⟩,
 ⟨some 26, .bin .lss (.tmp 25) (.const (.int .i64 0)), some (23, false)⟩,
 ⟨some 27, .pick (.tmp 23) (.const (.bool true)) (.tmp 26), none⟩,
 ⟨some 28, .move (.tmp 27), none⟩,
 ⟨some 29, .fieldAddr 2 (.tmp 3), some (28, false)⟩,
 ⟨some 30, .load1 (.tmp 29), some (28, false)⟩,
 ⟨some 31, .fieldAddr 1 (.tmp 3), some (28, false)⟩,
 ⟨some 32, .load1 (.tmp 31), some (28, false)⟩,
 ⟨some 33, .bin .gtr (.tmp 30) (.tmp 32), some (28, false)⟩,
 ⟨some 34, .pick (.tmp 28) (.const (.bool true)) (.tmp 33), none⟩,
 ⟨some 35, .move (.tmp 34), none⟩,
 ⟨some 36, .fieldAddr 3 (.tmp 3), some (35, false)⟩,
 ⟨some 37, .load1 (.tmp 36), some (35, false)⟩,
 ⟨some 38, .bin .lss (.tmp 37) (.const (.int .i64 0)), some (35, false)⟩,
 ⟨some 39, .pick (.tmp 35) (.const (.bool true)) (.tmp 38), none⟩,
 ⟨some 40, .move (.tmp 39), none⟩,
 ⟨some 41, .fieldAddr 3 (.tmp 3), some (40, false)⟩,
 ⟨some 42, .load1 (.tmp 41), some (40, false)⟩,
 ⟨some 43, .bin .gtr (.tmp 42) (.const (.int .i64 1099511627776)), some (40, false)⟩,
 ⟨some 44, .pick (.tmp 40) (.const (.bool true)) (.tmp 43), none⟩])
 (.cond (.tmp 44)
 (.seq (.ops [⟨some 45, .loadN 4 (.tmp 3), none⟩,
 ⟨some 46, .move (.tmp 2), none⟩,
 ⟨some 47, .call (F 247) [.tmp 45, .tmp 46], none⟩,
 ⟨some 48, .bin .eql (.tmp 47) (.const (.int .i64 0)), none⟩,
 ⟨some 49, .move (.tmp 48), none⟩,
 ⟨some 50, .call (F 274) [], some (49, true)⟩,
 ⟨some 51, .pick (.tmp 49) (.tmp 50) (.const (.bool false)), none⟩,
 ⟨some 6, .move (.tmp 51), none⟩])
 (.ret))
 (.skip)))
 (.seq (.seq (.draw [(⟨some 52, .move (.tmp 1), none⟩, []),
 (⟨some 53, .bin .geq (.tmp 52) (.const (.int .i64 0)), none⟩, []),
 (⟨some 54, .move (.tmp 53), none⟩, []),
 (⟨some 55, .move (.tmp 1), some (54, true)⟩, []),
 (⟨some 56, .fieldAddr 2 (.tmp 3), some (54, true)⟩, []),
 (⟨some 57, .load1 (.tmp 56), some (54, true)⟩, []),
 (⟨some 58, .bin .leq (.tmp 55) (.tmp 57), some (54, true)⟩, []),
 (⟨some 59, .pick (.tmp 54) (.tmp 58) (.const (.bool false)), none⟩, []),
 (⟨some 60, .move (.tmp 59), none⟩, []),
 (⟨some 61, .loadN 4 (.tmp 7), some (60, true)⟩, []),
 (⟨some 62, .move (.tmp 2), some (60, true)⟩, []),
 (⟨some 64, .loadN 4 (.tmp 3), some (60, true)⟩, []),
 (⟨some 65, .move (.tmp 2), some (60, true)⟩, []),
 (⟨some 63, .call (F 247) [.tmp 61, .tmp 62], some (60, true)⟩, [⟨some 64, .loadN 4 (.tmp 3), some (60, true)⟩]),
 (⟨some 66, .call (F 247) [.tmp 64, .tmp 65], some (60, true)⟩, []),
 (⟨some 67, .bin .lss (.tmp 63) (.tmp 66), some (60, true)⟩, []),
 (⟨some 68, .pick (.tmp 60) (.tmp 67) (.const (.bool false)), none⟩, [])])
 (.cond (.tmp 68)
 (.seq (.ops [⟨some 6, .move (.const (.bool false)), none⟩])
 (.ret))
 (.skip)))
 (.seq (.draw [(⟨some 69, .move (.tmp 1), none⟩, []),
 (⟨some 70, .bin .lss (.tmp 69) (.const (.int .i64 0)), none⟩, []),
 (⟨some 71, .move (.tmp 70), none⟩, []),
 (⟨some 72, .move (.tmp 1), some (71, false)⟩, []),
 (⟨some 73, .fieldAddr 3 (.tmp 3), some (71, false)⟩, []),
 (⟨some 74, .load1 (.tmp 73), some (71, false)⟩, []),
 (⟨some 75, .bin .gtr (.tmp 72) (.tmp 74), some (71, false)⟩, []),
 (⟨some 76, .pick (.tmp 71) (.const (.bool true)) (.tmp 75), none⟩, []),
 (⟨some 77, .move (.tmp 76), none⟩, []),
 (⟨some 78, .loadN 4 (.tmp 8), some (77, false)⟩, []),
 (⟨some 79, .move (.tmp 2), some (77, false)⟩, []),
 (⟨some 81, .loadN 4 (.tmp 3), some (77, false)⟩, []),
 (⟨some 82, .move (.tmp 2), some (77, false)⟩, []),
 (⟨some 80, .call (F 247) [.tmp 78, .tmp 79], some (77, false)⟩, [⟨some 81, .loadN 4 (.tmp 3), some (77, false)⟩]),
 (⟨some 83, .call (F 247) [.tmp 81, .tmp 82], some (77, false)⟩, []),
 (⟨some 84, .bin .geq (.tmp 80) (.tmp 83), some (77, false)⟩, []),
 (⟨some 85, .pick (.tmp 77) (.const (.bool true)) (.tmp 84), none⟩, []),
 (⟨some 86, .move (.tmp 85), none⟩, []),
 (⟨some 87, .call (F 274) [], some (86, true)⟩, []),
 (⟨some 88, .pick (.tmp 86) (.tmp 87) (.const (.bool false)), none⟩, []),
 (⟨some 6, .move (.tmp 88), none⟩, [])])
 (.ret)))))))⟩
/-- hurdle/hurdlelaw26.UsageNone -/
def c_hurdlelaw26_UsageNone (F : Nat → FuncId) (Ty : Nat → TypeId) : IFunc := ⟨75, [.tmp 4],
 .seq (.ops [⟨some 2, .box (.tmp 0), none⟩,
 ⟨some 4, .move (.const (.bool false)), none⟩])
 (.seq (.ops [⟨some 5, .move (.const (.pointer none)), none⟩])
 (.seq (.ops [⟨some 9, .move (.tmp 5), none⟩,
 ⟨some 10, .move (.tmp 1), none⟩,
 ⟨some 11, .call (F 248) [.tmp 9, .tmp 10], none⟩,
 ⟨some 8, .move (.tmp 11), none⟩,
 ⟨some 12, .extract (.tmp 8) 0, none⟩,
 ⟨some 13, .extract (.tmp 8) 1, none⟩,
 ⟨some 6, .move (.tmp 12), none⟩,
 ⟨some 7, .move (.tmp 13), none⟩])
 (.seq (.ops [⟨some 14, .move (.tmp 5), none⟩,
 ⟨some 15, .fieldAddr 2 (.tmp 2), none⟩,
 ⟨some 16, .fieldAddr 0 (.tmp 15), none⟩,
 ⟨some 17, .load1 (.tmp 16), none⟩,
 ⟨some 18, .fieldAddr 2 (.tmp 2), none⟩,
 ⟨some 19, .fieldAddr 1 (.tmp 18), none⟩,
 ⟨some 20, .load1 (.tmp 19), none⟩,
 ⟨some 21, .fieldAddr 2 (.tmp 2), none⟩,
 ⟨some 22, .fieldAddr 2 (.tmp 21), none⟩,
 ⟨some 23, .load1 (.tmp 22), none⟩,
 ⟨some 24, .fieldAddr 2 (.tmp 2), none⟩,
 ⟨some 25, .fieldAddr 3 (.tmp 24), none⟩,
 ⟨some 26, .load1 (.tmp 25), none⟩,
 ⟨some 27, .call (F 243) [.tmp 14, .tmp 17, .tmp 20, .tmp 23, .tmp 26], none⟩,
 ⟨some 28, .bin .eql (.tmp 27) (.const (.int .i64 1)), none⟩,
 ⟨some 29, .move (.tmp 28), none⟩,
 ⟨some 30, .move (.tmp 5), some (29, true)⟩,
 ⟨some 31, .fieldAddr 2 (.tmp 2), some (29, true)⟩,
 ⟨some 32, .fieldAddr 0 (.tmp 31), some (29, true)⟩,
 ⟨some 33, .load1 (.tmp 32), some (29, true)⟩,
 ⟨some 34, .fieldAddr 1 (.tmp 2), some (29, true)⟩,
 ⟨some 35, .load1 (.tmp 34), some (29, true)⟩,
 ⟨some 36, .call (F 245) [.tmp 30, .tmp 33, .tmp 35], some (29, true)⟩,
 ⟨some 37, .bin .eql (.tmp 36) (.const (.int .i64 1)), some (29, true)⟩,
 ⟨some 38, .pick (.tmp 29) (.tmp 37) (.const (.bool false)), none⟩,
 ⟨some 39, .move (.tmp 38), none⟩,
 ⟨some 40, .move (.tmp 5), some (39, true)⟩,
 ⟨some 41, .fieldAddr 2 (.tmp 2), some (39, true)⟩,
 ⟨some 42, .fieldAddr 0 (.tmp 41), some (39, true)⟩,
 ⟨some 43, .load1 (.tmp 42), some (39, true)⟩,
 ⟨some 44, .call (F 246) [.tmp 40, .tmp 43], some (39, true)⟩,
 ⟨some 45, .un .not (.tmp 44), some (39, true)⟩,
 ⟨some 46, .pick (.tmp 39) (.tmp 45) (.const (.bool false)), none⟩,
 ⟨some 47, .move (.tmp 46), none⟩,
 ⟨some 48, .move (.tmp 6), some (47, true)⟩,
 ⟨some 49, .bin .eql (.tmp 48) (.const (.int .i64 0)), some (47, true)⟩,
 ⟨some 50, .pick (.tmp 47) (.tmp 49) (.const (.bool false)), none⟩,
 ⟨some 51, .move (.tmp 50), none⟩,
 ⟨some 52, .move (.tmp 7), some (51, true)⟩,
 ⟨some 53, .un .not (.tmp 52), some (51, true)⟩,
 ⟨some 54, .pick (.tmp 51) (.tmp 53) (.const (.bool false)), none⟩,
 ⟨some 55, .move (.tmp 54), none⟩,
 ⟨some 56, .move (.tmp 5), some (55, true)⟩,
 ⟨some 57, .call (F 249) [.tmp 56], some (55, true)⟩,
 ⟨some 58, .lenSl (.tmp 57), some (55, true)⟩,
 ⟨some 59, .bin .eql (.tmp 58) (.const (.int .i64 0)), some (55, true)⟩,
 ⟨some 60, .pick (.tmp 55) (.tmp 59) (.const (.bool false)), none⟩,
 ⟨some 61, .move (.tmp 60), none⟩,
 ⟨some 62, .move (.tmp 5), some (61, true)⟩,
 ⟨some 63, .call (F 250) [.tmp 62], some (61, true)⟩,
 ⟨some 64, .lenSl (.tmp 63), some (61, true)⟩,
 ⟨some 65, .bin .eql (.tmp 64) (.const (.int .i64 0)), some (61, true)⟩,
 ⟨some 66, .pick (.tmp 61) (.tmp 65) (.const (.bool false)), none⟩,
 ⟨some 67, .move (.tmp 66), none⟩,
 ⟨some 68, .move (.tmp 5), some (67, true)⟩,
 ⟨some 69, .call (F 251) [.tmp 68], some (67, true)⟩,
 ⟨some 70, .bin .eql (.tmp 69) (.const (.int .i64 0)), some (67, true)⟩,
 ⟨some 71, .pick (.tmp 67) (.tmp 70) (.const (.bool false)), none⟩,
 ⟨some 72, .move (.tmp 71), none⟩,
 ⟨some 73, .call (F 274) [], some (72, true)⟩,
 ⟨some 74, .pick (.tmp 72) (.tmp 73) (.const (.bool false)), none⟩,
 ⟨some 4, .move (.tmp 74), none⟩])
 (.ret))))⟩
/-- hurdle/hurdlelaw26.awake -/
def c_hurdlelaw26_awake (F : Nat → FuncId) (Ty : Nat → TypeId) : IFunc := ⟨77, [.tmp 0],
 .seq (.ops [⟨some 0, .move (.const (.bool false)), none⟩])
 (.seq (.ops [⟨some 9, .call (F 237) [], none⟩,
 ⟨some 1, .move (.tmp 9), none⟩])
 (.seq (.seq (.ops [⟨some 10, .move (.tmp 1), none⟩,
 ⟨some 11, .eqNil 0 false (.tmp 10), none⟩])
 (.cond (.tmp 11)
 (.seq (.ops [⟨some 0, .move (.const (.bool false)), none⟩])
 (.ret))
 (.skip)))
 (.seq (.ops [⟨some 12, .move (.tmp 1), none⟩,
 ⟨some 13, .call (F 243) [.tmp 12, .const (.int .i64 3), .const (.int .i64 100), .const (.int .i64 50), .const (.int .i64 1)], none⟩,
 ⟨some 14, .move (.tmp 1), none⟩,
 ⟨some 15, .call (F 243) [.tmp 14, .const (.int .i64 3), .const (.int .i64 1), .const (.int .i64 1), .const (.int .i64 1)], none⟩,
 ⟨some 16, .move (.tmp 1), none⟩,
 ⟨some 17, .call (F 243) [.tmp 16, .const (.int .i64 4), .const (.int .i64 100), .const (.int .i64 0), .const (.int .i64 5)], none⟩,
 ⟨some 2, .move (.tmp 13), none⟩,
 ⟨some 3, .move (.tmp 15), none⟩,
 ⟨some 4, .move (.tmp 17), none⟩])
 (.seq (.ops [⟨some 19, .move (.tmp 1), none⟩,
 ⟨some 20, .call (F 248) [.tmp 19, .const (.int .i64 10)], none⟩,
 ⟨some 18, .move (.tmp 20), none⟩,
 ⟨some 21, .extract (.tmp 18) 0, none⟩,
 ⟨some 22, .extract (.tmp 18) 1, none⟩,
 ⟨some 5, .move (.tmp 21), none⟩,
 ⟨some 6, .move (.tmp 22), none⟩])
 (.seq (.ops [⟨some 23, .move (.tmp 1), none⟩,
 ⟨some 24, .call (F 245) [.tmp 23, .const (.int .i64 3), .const (.int .i64 51)], none⟩,
 ⟨some 25, .move (.tmp 1), none⟩,
 ⟨some 26, .call (F 245) [.tmp 25, .const (.int .i64 3), .const (.int .i64 50)], none⟩,
 ⟨some 7, .move (.tmp 24), none⟩,
 ⟨some 8, .move (.tmp 26), none⟩])
 (.seq (.ops [⟨some 27, .move (.tmp 2), none⟩,
 ⟨some 28, .bin .eql (.tmp 27) (.const (.int .i64 0)), none⟩,
 ⟨some 29, .move (.tmp 28), none⟩,
 ⟨some 30, .move (.tmp 3), some (29, true)⟩,
 ⟨some 31, .bin .eql (.tmp 30) (.const (.int .i64 6)), some (29, true)⟩,
 ⟨some 32, .pick (.tmp 29) (.tmp 31) (.const (.bool false)), none⟩,
 ⟨some 33, .move (.tmp 32), none⟩,
 ⟨some 34, .move (.tmp 4), some (33, true)⟩,
 ⟨some 35, .bin .eql (.tmp 34) (.const (.int .i64 0)), some (33, true)⟩,
 ⟨some 36, .pick (.tmp 33) (.tmp 35) (.const (.bool false)), none⟩,
 ⟨some 37, .move (.tmp 36), none⟩,
 ⟨some 38, .move (.tmp 5), some (37, true)⟩,
 ⟨some 39, .bin .eql (.tmp 38) (.const (.int .i64 4)), some (37, true)⟩,
 ⟨some 40, .pick (.tmp 37) (.tmp 39) (.const (.bool false)), none⟩,
 ⟨some 41, .move (.tmp 40), none⟩,
 ⟨some 42, .move (.tmp 6), some (41, true)⟩,
 ⟨some 43, .pick (.tmp 41) (.tmp 42) (.const (.bool false)), none⟩,
 ⟨some 44, .move (.tmp 43), none⟩,
 ⟨some 45, .move (.tmp 7), some (44, true)⟩,
 ⟨some 46, .bin .eql (.tmp 45) (.const (.int .i64 2)), some (44, true)⟩,
 ⟨some 47, .pick (.tmp 44) (.tmp 46) (.const (.bool false)), none⟩,
 ⟨some 48, .move (.tmp 47), none⟩,
 ⟨some 49, .move (.tmp 8), some (48, true)⟩,
 ⟨some 50, .bin .eql (.tmp 49) (.const (.int .i64 0)), some (48, true)⟩,
 ⟨some 51, .pick (.tmp 48) (.tmp 50) (.const (.bool false)), none⟩,
 ⟨some 52, .move (.tmp 51), none⟩,
 ⟨some 53, .move (.tmp 1), some (52, true)⟩,
 ⟨some 54, .call (F 249) [.tmp 53], some (52, true)⟩,
 ⟨some 55, .buildSlice 2 [.int .i64 0, .int .i64 0] [((0, 1), .const (.int .i64 3)), ((1, 1), .const (.int .i64 4))], some (52, true)⟩,
 ⟨some 56, .call (F 69) [.tmp 54, .tmp 55], some (52, true)⟩,
 ⟨some 57, .pick (.tmp 52) (.tmp 56) (.const (.bool false)), none⟩,
 ⟨some 58, .move (.tmp 57), none⟩,
 ⟨some 59, .move (.tmp 1), some (58, true)⟩,
 ⟨some 60, .call (F 251) [.tmp 59], some (58, true)⟩,
 ⟨some 61, .bin .eql (.tmp 60) (.const (.int .i64 0)), some (58, true)⟩,
 ⟨some 62, .pick (.tmp 58) (.tmp 61) (.const (.bool false)), none⟩,
 ⟨some 63, .move (.tmp 62), none⟩,
 ⟨some 64, .move (.tmp 1), some (63, true)⟩,
 ⟨some 65, .call (F 246) [.tmp 64, .const (.int .i64 3)], some (63, true)⟩,
 ⟨some 66, .pick (.tmp 63) (.tmp 65) (.const (.bool false)), none⟩,
 ⟨some 67, .move (.tmp 66), none⟩,
 ⟨some 68, .move (.tmp 1), some (67, true)⟩,
 ⟨some 69, .call (F 246) [.tmp 68, .const (.int .i64 3)], some (67, true)⟩,
 ⟨some 70, .un .not (.tmp 69), some (67, true)⟩,
 ⟨some 71, .pick (.tmp 67) (.tmp 70) (.const (.bool false)), none⟩,
 ⟨some 72, .move (.tmp 71), none⟩,
 ⟨some 73, .build [.int .i64 0, .int .i64 0, .int .i64 0, .int .i64 0] [((1, 1), .const (.int .i64 100)), ((2, 1), .const (.int .i64 50)), ((3, 1), .const (.int .i64 1))], some (72, true)⟩,
 ⟨some 74, .call (F 247) [.tmp 73, .const (.int .i64 10)], some (72, true)⟩,
 ⟨some 75, .bin .eql (.tmp 74) (.const (.int .i64 3333)), some (72, true)⟩,
 ⟨some 76, .pick (.tmp 72) (.tmp 75) (.const (.bool false)), none⟩,
 ⟨some 0, .move (.tmp 76), none⟩])
 (.ret)))))))⟩
/-- A context has these functions. -/
structure HasLaw26 (c : Ctx) : Prop where
 hurdlelaw26_UsagePlays : c.IP (c.F 269) = some (c_hurdlelaw26_UsagePlays c.F c.Ty)
 hurdlelaw26_UsageScores : c.IP (c.F 270) = some (c_hurdlelaw26_UsageScores c.F c.Ty)
 hurdlelaw26_UsageBest : c.IP (c.F 271) = some (c_hurdlelaw26_UsageBest c.F c.Ty)
 hurdlelaw26_UsageEmptier : c.IP (c.F 272) = some (c_hurdlelaw26_UsageEmptier c.F c.Ty)
 hurdlelaw26_UsageNone : c.IP (c.F 273) = some (c_hurdlelaw26_UsageNone c.F c.Ty)
 hurdlelaw26_awake : c.IP (c.F 274) = some (c_hurdlelaw26_awake c.F c.Ty)

end Go.Proofs.YtdfjicnjcibdaaaI
