/- PRINTED by gen.py (this session's own): the intermediate form of some functions, and a context's having them. -/
import Derived.Test.YtmdkkhnenciknaaIdealY
namespace Go.Proofs.YtmdkkhnenciknaaI
set_option linter.unusedSimpArgs false
set_option linter.unusedVariables false
open Go

/-- hurdle/hurdlelaw24.SmapPlays -/
abbrev n_hurdlelaw24_SmapPlays : Nat := 169
/-- hurdle/hurdlelaw24.SmapOrder -/
abbrev n_hurdlelaw24_SmapOrder : Nat := 170
/-- hurdle/hurdlelaw24.SmapBack -/
abbrev n_hurdlelaw24_SmapBack : Nat := 171
/-- hurdle/hurdlelaw24.SmapDrop -/
abbrev n_hurdlelaw24_SmapDrop : Nat := 172
/-- hurdle/hurdlelaw24.SmapNone -/
abbrev n_hurdlelaw24_SmapNone : Nat := 173
/-- hurdle/hurdlelaw24.Few -/
abbrev n_hurdlelaw24_Few : Nat := 174
/-- hurdle/hurdlelaw24.awake -/
abbrev n_hurdlelaw24_awake : Nat := 175
/-- hurdle/hurdlelaw24.do -/
abbrev n_hurdlelaw24_do : Nat := 176
/-- hurdle/hurdlelaw24.SmapPlays -/
def c_hurdlelaw24_SmapPlays (F : Nat → FuncId) (Ty : Nat → TypeId) : IFunc := ⟨111, [.tmp 2],
 .seq (.ops [⟨some 2, .move (.const (.bool false)), none⟩])
 (.seq (.seq (.ops [⟨some 12, .move (.tmp 0), none⟩,
 ⟨some 13, .call (F 174) [.tmp 12], none⟩,
 ⟨some 14, .bin .eql (.tmp 13) (.const (.int .i64 0)), none⟩])
 (.cond (.tmp 14)
 (.seq (.ops [⟨some 15, .call (F 175) [], none⟩,
 ⟨some 2, .move (.tmp 15), none⟩])
 (.ret))
 (.skip)))
 (.seq (.ops [⟨some 16, .call (F 132) [], none⟩,
 ⟨some 3, .move (.tmp 16), none⟩])
 (.seq (.ops [⟨some 4, .move (.const (.slice none 0 0)), none⟩])
 (.seq (.seq (.ops [⟨some 5, .move (.const (.int .i64 0)), none⟩])
 (.block 0 (.loop (.seq (.seq (.ops [⟨some 17, .move (.tmp 5), none⟩,
 ⟨some 18, .move (.tmp 0), none⟩,
 ⟨some 19, .lenSl (.tmp 18), none⟩,
 ⟨some 20, .bin .lss (.tmp 17) (.tmp 19), none⟩])
 (.cond (.tmp 20)
 (.skip)
 (.exit 0)))
 (.seq (.block 1 (.seq (.ops [⟨some 24, .move (.tmp 3), none⟩,
 ⟨some 25, .move (.tmp 4), none⟩,
 ⟨some 26, .move (.tmp 0), none⟩,
 ⟨some 27, .move (.tmp 5), none⟩,
 ⟨some 28, .idxSl 5 (.tmp 26) (.tmp 27), none⟩,
 ⟨some 29, .loadN 5 (.tmp 28), none⟩,
 ⟨some 30, .call (F 176) [.tmp 24, .tmp 25, .tmp 29], none⟩,
 ⟨some 23, .move (.tmp 30), none⟩,
 ⟨some 31, .extract (.tmp 23) 0, none⟩,
 ⟨some 32, .extract (.tmp 23) 1, none⟩,
 ⟨some 6, .move (.tmp 31), none⟩,
 ⟨some 7, .move (.tmp 32), none⟩])
 (.seq (.ops [⟨some 33, .move (.tmp 6), none⟩,
 ⟨some 4, .move (.tmp 33), none⟩])
 (.seq (.ops [⟨some 35, .move (.tmp 3), none⟩,
 ⟨some 36, .move (.tmp 0), none⟩,
 ⟨some 37, .move (.tmp 5), none⟩,
 ⟨some 38, .idxSl 5 (.tmp 36) (.tmp 37), none⟩,
 ⟨some 39, .fieldAddr 1 (.tmp 38), none⟩,
 ⟨some 40, .load1 (.tmp 39), none⟩,
 ⟨some 41, .call (F 143) [.tmp 35, .tmp 40], none⟩,
 ⟨some 34, .move (.tmp 41), none⟩,
 ⟨some 42, .extract (.tmp 34) 0, none⟩,
 ⟨some 43, .extract (.tmp 34) 1, none⟩,
 ⟨some 8, .alloc [.int .i64 0, .int .i64 0, .int .i64 0, .int .i64 0, .int .i64 0, .slice none 0 0], none⟩,
 ⟨none, .store 6 (.tmp 8) (.tmp 42), none⟩,
 ⟨some 9, .move (.tmp 43), none⟩])
 (.seq (.ops [⟨some 45, .move (.tmp 4), none⟩,
 ⟨some 46, .move (.tmp 0), none⟩,
 ⟨some 47, .move (.tmp 5), none⟩,
 ⟨some 48, .idxSl 5 (.tmp 46) (.tmp 47), none⟩,
 ⟨some 49, .fieldAddr 1 (.tmp 48), none⟩,
 ⟨some 50, .load1 (.tmp 49), none⟩,
 ⟨some 51, .call (F 168) [.tmp 45, .tmp 50], none⟩,
 ⟨some 44, .move (.tmp 51), none⟩,
 ⟨some 52, .extract (.tmp 44) 0, none⟩,
 ⟨some 53, .extract (.tmp 44) 1, none⟩,
 ⟨some 10, .alloc [.int .i64 0, .int .i64 0, .int .i64 0, .int .i64 0, .int .i64 0, .slice none 0 0], none⟩,
 ⟨none, .store 6 (.tmp 10) (.tmp 52), none⟩,
 ⟨some 11, .move (.tmp 53), none⟩])
 (.seq (.draw [(⟨some 54, .move (.tmp 7), none⟩, []),
 (⟨some 55, .un .not (.tmp 54), none⟩, []),
 (⟨some 56, .move (.tmp 55), none⟩, []),
 (⟨some 57, .move (.tmp 9), some (56, false)⟩, []),
 (⟨some 58, .move (.tmp 11), some (56, false)⟩, []),
 (⟨some 59, .eqv true [] (.tmp 57) (.tmp 58), some (56, false)⟩, []),
 (⟨some 60, .pick (.tmp 56) (.const (.bool true)) (.tmp 59), none⟩, []),
 (⟨some 61, .move (.tmp 60), none⟩, []),
 (⟨some 62, .loadN 6 (.tmp 8), some (61, false)⟩, []),
 (⟨some 63, .loadN 6 (.tmp 10), some (61, false)⟩, []),
 (⟨some 64, .call (F 167) [.tmp 62, .tmp 63], some (61, false)⟩, []),
 (⟨some 65, .un .not (.tmp 64), some (61, false)⟩, []),
 (⟨some 66, .pick (.tmp 61) (.const (.bool true)) (.tmp 65), none⟩, []),
 (⟨some 67, .move (.tmp 66), none⟩, []),
 (⟨some 68, .move (.tmp 3), some (67, false)⟩, []),
 (⟨some 69, .move (.tmp 0), some (67, false)⟩, []),
 (⟨some 70, .move (.tmp 5), some (67, false)⟩, []),
 (⟨some 71, .idxSl 5 (.tmp 69) (.tmp 70), some (67, false)⟩, []),
 (⟨some 72, .fieldAddr 2 (.tmp 71), some (67, false)⟩, []),
 (⟨some 73, .load1 (.tmp 72), some (67, false)⟩, []),
 (⟨some 75, .move (.tmp 4), some (67, false)⟩, []),
 (⟨some 76, .move (.tmp 0), some (67, false)⟩, []),
 (⟨some 77, .move (.tmp 5), some (67, false)⟩, []),
 (⟨some 78, .idxSl 5 (.tmp 76) (.tmp 77), some (67, false)⟩, []),
 (⟨some 79, .fieldAddr 2 (.tmp 78), some (67, false)⟩, []),
 (⟨some 80, .load1 (.tmp 79), some (67, false)⟩, []),
 (⟨some 74, .call (F 144) [.tmp 68, .tmp 73], some (67, false)⟩, [⟨some 80, .load1 (.tmp 79), some (67, false)⟩]),
 (⟨some 81, .call (F 156) [.tmp 75, .tmp 80], some (67, false)⟩, []),
 (⟨some 82, .call (F 69) [.tmp 74, .tmp 81], some (67, false)⟩, []),
 (⟨some 83, .un .not (.tmp 82), some (67, false)⟩, []),
 (⟨some 84, .pick (.tmp 67) (.const (.bool true)) (.tmp 83), none⟩, []),
 (⟨some 85, .move (.tmp 84), none⟩, []),
 (⟨some 86, .move (.tmp 3), some (85, false)⟩, []),
 (⟨some 87, .move (.tmp 0), some (85, false)⟩, []),
 (⟨some 88, .move (.tmp 5), some (85, false)⟩, []),
 (⟨some 89, .idxSl 5 (.tmp 87) (.tmp 88), some (85, false)⟩, []),
 (⟨some 90, .fieldAddr 3 (.tmp 89), some (85, false)⟩, []),
 (⟨some 91, .load1 (.tmp 90), some (85, false)⟩, []),
 (⟨some 93, .move (.tmp 4), some (85, false)⟩, []),
 (⟨some 94, .move (.tmp 0), some (85, false)⟩, []),
 (⟨some 95, .move (.tmp 5), some (85, false)⟩, []),
 (⟨some 96, .idxSl 5 (.tmp 94) (.tmp 95), some (85, false)⟩, []),
 (⟨some 97, .fieldAddr 3 (.tmp 96), some (85, false)⟩, []),
 (⟨some 98, .load1 (.tmp 97), some (85, false)⟩, []),
 (⟨some 92, .call (F 146) [.tmp 86, .tmp 91], some (85, false)⟩, [⟨some 98, .load1 (.tmp 97), some (85, false)⟩]),
 (⟨some 99, .call (F 164) [.tmp 93, .tmp 98], some (85, false)⟩, []),
 (⟨some 100, .call (F 69) [.tmp 92, .tmp 99], some (85, false)⟩, []),
 (⟨some 101, .un .not (.tmp 100), some (85, false)⟩, []),
 (⟨some 102, .pick (.tmp 85) (.const (.bool true)) (.tmp 101), none⟩, [])])
 (.cond (.tmp 102)
 (.seq (.ops [⟨some 2, .move (.const (.bool false)), none⟩])
 (.ret))
 (.skip))))))))
 (.ops [⟨some 21, .move (.tmp 5), none⟩,
 ⟨some 22, .bin .add (.tmp 21) (.const (.int .i64 1)), none⟩,
 ⟨some 5, .move (.tmp 22), none⟩]))))))
 (.seq (.ops [⟨some 103, .move (.tmp 3), none⟩,
 ⟨some 104, .call (F 148) [.tmp 103], none⟩,
 ⟨some 105, .move (.tmp 4), none⟩,
 ⟨some 106, .call (F 165) [.tmp 105], none⟩,
 ⟨some 107, .bin .eql (.tmp 104) (.tmp 106), none⟩,
 ⟨some 108, .move (.tmp 107), none⟩,
 ⟨some 109, .call (F 175) [], some (108, true)⟩,
 ⟨some 110, .pick (.tmp 108) (.tmp 109) (.const (.bool false)), none⟩,
 ⟨some 2, .move (.tmp 110), none⟩])
 (.ret))))))⟩
/-- hurdle/hurdlelaw24.SmapOrder -/
def c_hurdlelaw24_SmapOrder (F : Nat → FuncId) (Ty : Nat → TypeId) : IFunc := ⟨89, [.tmp 2],
 .seq (.ops [⟨some 2, .move (.const (.bool false)), none⟩])
 (.seq (.seq (.ops [⟨some 13, .move (.tmp 0), none⟩,
 ⟨some 14, .call (F 174) [.tmp 13], none⟩,
 ⟨some 15, .bin .eql (.tmp 14) (.const (.int .i64 0)), none⟩])
 (.cond (.tmp 15)
 (.seq (.ops [⟨some 16, .call (F 175) [], none⟩,
 ⟨some 2, .move (.tmp 16), none⟩])
 (.ret))
 (.skip)))
 (.seq (.ops [⟨some 17, .call (F 132) [], none⟩,
 ⟨some 3, .move (.tmp 17), none⟩])
 (.seq (.ops [⟨some 4, .move (.const (.slice none 0 0)), none⟩])
 (.seq (.ops [⟨some 5, .move (.const (.slice none 0 0)), none⟩])
 (.seq (.seq (.ops [⟨some 6, .move (.const (.int .i64 0)), none⟩])
 (.block 0 (.loop (.seq (.seq (.ops [⟨some 18, .move (.tmp 6), none⟩,
 ⟨some 19, .move (.tmp 0), none⟩,
 ⟨some 20, .lenSl (.tmp 19), none⟩,
 ⟨some 21, .bin .lss (.tmp 18) (.tmp 20), none⟩])
 (.cond (.tmp 21)
 (.skip)
 (.exit 0)))
 (.seq (.block 1 (.seq (.ops [⟨some 25, .move (.tmp 3), none⟩,
 ⟨some 26, .move (.tmp 4), none⟩,
 ⟨some 27, .move (.tmp 0), none⟩,
 ⟨some 28, .move (.tmp 6), none⟩,
 ⟨some 29, .idxSl 5 (.tmp 27) (.tmp 28), none⟩,
 ⟨some 30, .loadN 5 (.tmp 29), none⟩,
 ⟨some 31, .call (F 176) [.tmp 25, .tmp 26, .tmp 30], none⟩,
 ⟨some 24, .move (.tmp 31), none⟩,
 ⟨some 32, .extract (.tmp 24) 0, none⟩,
 ⟨some 33, .extract (.tmp 24) 1, none⟩,
 ⟨some 7, .move (.tmp 32), none⟩,
 ⟨some 8, .move (.tmp 33), none⟩])
 (.seq (.ops [⟨some 34, .move (.tmp 7), none⟩,
 ⟨some 4, .move (.tmp 34), none⟩])
 (.seq (.seq (.ops [⟨some 35, .move (.tmp 8), none⟩,
 ⟨some 36, .un .not (.tmp 35), none⟩])
 (.cond (.tmp 36)
 (.seq (.ops [⟨some 2, .move (.const (.bool false)), none⟩])
 (.ret))
 (.skip)))
 (.seq (.ops [⟨some 9, .move (.const (.slice none 0 0)), none⟩])
 (.seq (.seq (.ops [⟨some 10, .move (.const (.int .i64 0)), none⟩])
 (.block 2 (.loop (.seq (.seq (.ops [⟨some 37, .move (.tmp 10), none⟩,
 ⟨some 38, .move (.tmp 4), none⟩,
 ⟨some 39, .lenSl (.tmp 38), none⟩,
 ⟨some 40, .bin .lss (.tmp 37) (.tmp 39), none⟩])
 (.cond (.tmp 40)
 (.skip)
 (.exit 2)))
 (.seq (.block 3 (.seq (.ops [⟨some 44, .move (.tmp 3), none⟩,
 ⟨some 45, .move (.tmp 10), none⟩,
 ⟨some 46, .call (F 143) [.tmp 44, .tmp 45], none⟩,
 ⟨some 43, .move (.tmp 46), none⟩,
 ⟨some 47, .extract (.tmp 43) 0, none⟩,
 ⟨some 48, .extract (.tmp 43) 1, none⟩,
 ⟨some 11, .alloc [.int .i64 0, .int .i64 0, .int .i64 0, .int .i64 0, .int .i64 0, .slice none 0 0], none⟩,
 ⟨none, .store 6 (.tmp 11) (.tmp 47), none⟩,
 ⟨some 12, .move (.tmp 48), none⟩])
 (.seq (.seq (.draw [(⟨some 49, .move (.tmp 12), none⟩, []),
 (⟨some 50, .un .not (.tmp 49), none⟩, []),
 (⟨some 51, .move (.tmp 50), none⟩, []),
 (⟨some 52, .fieldAddr 1 (.tmp 11), some (51, false)⟩, []),
 (⟨some 53, .load1 (.tmp 52), some (51, false)⟩, []),
 (⟨some 54, .bin .lss (.tmp 53) (.const (.int .i64 1)), some (51, false)⟩, []),
 (⟨some 55, .pick (.tmp 51) (.const (.bool true)) (.tmp 54), none⟩, []),
 (⟨some 56, .move (.tmp 55), none⟩, []),
 (⟨some 57, .fieldAddr 1 (.tmp 11), some (56, false)⟩, []),
 (⟨some 58, .load1 (.tmp 57), some (56, false)⟩, []),
 (⟨some 59, .bin .gtr (.tmp 58) (.const (.int .i64 3)), some (56, false)⟩, []),
 (⟨some 60, .pick (.tmp 56) (.const (.bool true)) (.tmp 59), none⟩, []),
 (⟨some 61, .move (.tmp 60), none⟩, []),
 (⟨some 62, .move (.tmp 10), some (61, false)⟩, []),
 (⟨some 63, .move (.tmp 5), some (61, false)⟩, []),
 (⟨some 64, .lenSl (.tmp 63), some (61, false)⟩, []),
 (⟨some 65, .bin .lss (.tmp 62) (.tmp 64), some (61, false)⟩, []),
 (⟨some 66, .move (.tmp 65), some (61, false)⟩, []),
 (⟨some 67, .fieldAddr 1 (.tmp 11), some (66, true)⟩, []),
 (⟨some 68, .load1 (.tmp 67), some (66, true)⟩, []),
 (⟨some 69, .move (.tmp 5), some (66, true)⟩, []),
 (⟨some 70, .move (.tmp 10), some (66, true)⟩, []),
 (⟨some 71, .idxSl 6 (.tmp 69) (.tmp 70), some (66, true)⟩, []),
 (⟨some 72, .fieldAddr 1 (.tmp 71), some (66, true)⟩, []),
 (⟨some 73, .load1 (.tmp 72), some (66, true)⟩, []),
 (⟨some 74, .bin .lss (.tmp 68) (.tmp 73), some (66, true)⟩, []),
 (⟨some 75, .pick (.tmp 66) (.tmp 74) (.const (.bool false)), some (61, false)⟩, []),
 (⟨some 76, .pick (.tmp 61) (.const (.bool true)) (.tmp 75), none⟩, []),
 (⟨some 77, .move (.tmp 76), none⟩, []),
 (⟨some 78, .fieldAddr 5 (.tmp 11), some (77, false)⟩, []),
 (⟨some 79, .load1 (.tmp 78), some (77, false)⟩, []),
 (⟨some 80, .call (F 115) [.tmp 79], some (77, false)⟩, []),
 (⟨some 81, .un .not (.tmp 80), some (77, false)⟩, []),
 (⟨some 82, .pick (.tmp 77) (.const (.bool true)) (.tmp 81), none⟩, [])])
 (.cond (.tmp 82)
 (.seq (.ops [⟨some 2, .move (.const (.bool false)), none⟩])
 (.ret))
 (.skip)))
 (.ops [⟨some 83, .move (.tmp 9), none⟩,
 ⟨some 84, .loadN 6 (.tmp 11), none⟩,
 ⟨some 85, .buildSlice 1 [.int .i64 0, .int .i64 0, .int .i64 0, .int .i64 0, .int .i64 0, .slice none 0 0] [((0, 6), .tmp 84)], none⟩,
 ⟨some 86, .append 6 64 (.tmp 83) (.tmp 85), none⟩,
 ⟨some 9, .move (.tmp 86), none⟩]))))
 (.ops [⟨some 41, .move (.tmp 10), none⟩,
 ⟨some 42, .bin .add (.tmp 41) (.const (.int .i64 1)), none⟩,
 ⟨some 10, .move (.tmp 42), none⟩]))))))
 (.ops [⟨some 87, .move (.tmp 9), none⟩,
 ⟨some 5, .move (.tmp 87), none⟩])))))))
 (.ops [⟨some 22, .move (.tmp 6), none⟩,
 ⟨some 23, .bin .add (.tmp 22) (.const (.int .i64 1)), none⟩,
 ⟨some 6, .move (.tmp 23), none⟩]))))))
 (.seq (.ops [⟨some 88, .call (F 175) [], none⟩,
 ⟨some 2, .move (.tmp 88), none⟩])
 (.ret)))))))⟩
/-- hurdle/hurdlelaw24.SmapBack -/
def c_hurdlelaw24_SmapBack (F : Nat → FuncId) (Ty : Nat → TypeId) : IFunc := ⟨106, [.tmp 4],
 .seq (.ops [⟨some 4, .move (.const (.bool false)), none⟩])
 (.seq (.seq (.ops [⟨some 16, .move (.tmp 0), none⟩,
 ⟨some 17, .call (F 174) [.tmp 16], none⟩,
 ⟨some 18, .bin .eql (.tmp 17) (.const (.int .i64 0)), none⟩,
 ⟨some 19, .move (.tmp 18), none⟩,
 ⟨some 20, .move (.tmp 1), some (19, false)⟩,
 ⟨some 21, .strLen (.tmp 20), some (19, false)⟩,
 ⟨some 22, .bin .gtr (.tmp 21) (.const (.int .i64 20000)), some (19, false)⟩,
 ⟨some 23, .pick (.tmp 19) (.const (.bool true)) (.tmp 22), none⟩])
 (.cond (.tmp 23)
 (.seq (.ops [⟨some 24, .call (F 175) [], none⟩,
 ⟨some 4, .move (.tmp 24), none⟩])
 (.ret))
 (.skip)))
 (.seq (.ops [⟨some 26, .move (.tmp 1), none⟩,
 ⟨some 27, .call (F 152) [.tmp 26], none⟩,
 ⟨some 25, .move (.tmp 27), none⟩,
 ⟨some 28, .extract (.tmp 25) 0, none⟩,
 ⟨some 29, .extract (.tmp 25) 1, none⟩,
 ⟨some 5, .move (.tmp 28), none⟩,
 ⟨some 6, .move (.tmp 29), none⟩])
 (.seq (.ops [⟨some 31, .move (.tmp 1), none⟩,
 ⟨some 32, .call (F 166) [.tmp 31], none⟩,
 ⟨some 30, .move (.tmp 32), none⟩,
 ⟨some 33, .extract (.tmp 30) 0, none⟩,
 ⟨some 34, .extract (.tmp 30) 1, none⟩,
 ⟨some 7, .move (.tmp 33), none⟩,
 ⟨some 8, .move (.tmp 34), none⟩])
 (.seq (.seq (.ops [⟨some 35, .move (.tmp 6), none⟩,
 ⟨some 36, .move (.tmp 8), none⟩,
 ⟨some 37, .bin .neq (.tmp 35) (.tmp 36), none⟩,
 ⟨some 38, .move (.tmp 37), none⟩,
 ⟨some 39, .move (.tmp 5), some (38, false)⟩,
 ⟨some 40, .eqNil 0 false (.tmp 39), some (38, false)⟩,
 ⟨some 41, .move (.tmp 8), some (38, false)⟩,
 ⟨some 42, .bin .neq (.tmp 41) (.const (.int .i64 0)), some (38, false)⟩,
 ⟨some 43, .eqv true [] (.tmp 40) (.tmp 42), some (38, false)⟩,
 ⟨some 44, .pick (.tmp 38) (.const (.bool true)) (.tmp 43), none⟩,
 ⟨some 45, .move (.tmp 44), none⟩,
 ⟨some 46, .move (.tmp 8), some (45, false)⟩,
 ⟨some 47, .bin .eql (.tmp 46) (.const (.int .i64 0)), some (45, false)⟩,
 ⟨some 48, .move (.tmp 47), some (45, false)⟩,
 ⟨some 49, .move (.tmp 5), some (48, true)⟩,
 ⟨some 50, .call (F 148) [.tmp 49], some (48, true)⟩,
 ⟨some 51, .move (.tmp 1), some (48, true)⟩,
 ⟨some 52, .bin .neq (.tmp 50) (.tmp 51), some (48, true)⟩,
 ⟨some 53, .move (.tmp 52), some (48, true)⟩,
 ⟨some 54, .move (.tmp 7), some (53, false)⟩,
 ⟨some 55, .call (F 165) [.tmp 54], some (53, false)⟩,
 ⟨some 56, .move (.tmp 1), some (53, false)⟩,
 ⟨some 57, .bin .neq (.tmp 55) (.tmp 56), some (53, false)⟩,
 ⟨some 58, .pick (.tmp 53) (.const (.bool true)) (.tmp 57), some (48, true)⟩,
 ⟨some 59, .pick (.tmp 48) (.tmp 58) (.const (.bool false)), some (45, false)⟩,
 ⟨some 60, .pick (.tmp 45) (.const (.bool true)) (.tmp 59), none⟩])
 (.cond (.tmp 60)
 (.seq (.ops [⟨some 4, .move (.const (.bool false)), none⟩])
 (.ret))
 (.skip)))
 (.seq (.ops [⟨some 61, .call (F 132) [], none⟩,
 ⟨some 9, .move (.tmp 61), none⟩])
 (.seq (.ops [⟨some 10, .move (.const (.slice none 0 0)), none⟩])
 (.seq (.seq (.ops [⟨some 11, .move (.const (.int .i64 0)), none⟩])
 (.block 0 (.loop (.seq (.seq (.ops [⟨some 62, .move (.tmp 11), none⟩,
 ⟨some 63, .move (.tmp 0), none⟩,
 ⟨some 64, .lenSl (.tmp 63), none⟩,
 ⟨some 65, .bin .lss (.tmp 62) (.tmp 64), none⟩])
 (.cond (.tmp 65)
 (.skip)
 (.exit 0)))
 (.seq (.block 1 (.seq (.ops [⟨some 69, .move (.tmp 9), none⟩,
 ⟨some 70, .move (.tmp 10), none⟩,
 ⟨some 71, .move (.tmp 0), none⟩,
 ⟨some 72, .move (.tmp 11), none⟩,
 ⟨some 73, .idxSl 5 (.tmp 71) (.tmp 72), none⟩,
 ⟨some 74, .loadN 5 (.tmp 73), none⟩,
 ⟨some 75, .call (F 176) [.tmp 69, .tmp 70, .tmp 74], none⟩,
 ⟨some 68, .move (.tmp 75), none⟩,
 ⟨some 76, .extract (.tmp 68) 0, none⟩,
 ⟨some 77, .extract (.tmp 68) 1, none⟩,
 ⟨some 12, .move (.tmp 76), none⟩,
 ⟨some 13, .move (.tmp 77), none⟩])
 (.seq (.ops [⟨some 78, .move (.tmp 12), none⟩,
 ⟨some 10, .move (.tmp 78), none⟩])
 (.seq (.ops [⟨some 79, .move (.tmp 13), none⟩,
 ⟨some 80, .un .not (.tmp 79), none⟩])
 (.cond (.tmp 80)
 (.seq (.ops [⟨some 4, .move (.const (.bool false)), none⟩])
 (.ret))
 (.skip))))))
 (.ops [⟨some 66, .move (.tmp 11), none⟩,
 ⟨some 67, .bin .add (.tmp 66) (.const (.int .i64 1)), none⟩,
 ⟨some 11, .move (.tmp 67), none⟩]))))))
 (.seq (.ops [⟨some 82, .move (.tmp 9), none⟩,
 ⟨some 83, .call (F 148) [.tmp 82], none⟩,
 ⟨some 84, .call (F 152) [.tmp 83], none⟩,
 ⟨some 81, .move (.tmp 84), none⟩,
 ⟨some 85, .extract (.tmp 81) 0, none⟩,
 ⟨some 86, .extract (.tmp 81) 1, none⟩,
 ⟨some 14, .move (.tmp 85), none⟩,
 ⟨some 15, .move (.tmp 86), none⟩])
 (.seq (.ops [⟨some 87, .move (.tmp 15), none⟩,
 ⟨some 88, .bin .eql (.tmp 87) (.const (.int .i64 0)), none⟩,
 ⟨some 89, .move (.tmp 88), none⟩,
 ⟨some 90, .move (.tmp 14), some (89, true)⟩,
 ⟨some 91, .call (F 148) [.tmp 90], some (89, true)⟩,
 ⟨some 92, .move (.tmp 9), some (89, true)⟩,
 ⟨some 93, .call (F 148) [.tmp 92], some (89, true)⟩,
 ⟨some 94, .bin .eql (.tmp 91) (.tmp 93), some (89, true)⟩,
 ⟨some 95, .pick (.tmp 89) (.tmp 94) (.const (.bool false)), none⟩,
 ⟨some 96, .move (.tmp 95), none⟩,
 ⟨some 97, .move (.tmp 14), some (96, true)⟩,
 ⟨some 98, .call (F 144) [.tmp 97, .const (.int .i64 1)], some (96, true)⟩,
 ⟨some 99, .move (.tmp 9), some (96, true)⟩,
 ⟨some 100, .call (F 144) [.tmp 99, .const (.int .i64 1)], some (96, true)⟩,
 ⟨some 101, .call (F 69) [.tmp 98, .tmp 100], some (96, true)⟩,
 ⟨some 102, .pick (.tmp 96) (.tmp 101) (.const (.bool false)), none⟩,
 ⟨some 103, .move (.tmp 102), none⟩,
 ⟨some 104, .call (F 175) [], some (103, true)⟩,
 ⟨some 105, .pick (.tmp 103) (.tmp 104) (.const (.bool false)), none⟩,
 ⟨some 4, .move (.tmp 105), none⟩])
 (.ret))))))))))⟩
/-- hurdle/hurdlelaw24.SmapDrop -/
def c_hurdlelaw24_SmapDrop (F : Nat → FuncId) (Ty : Nat → TypeId) : IFunc := ⟨102, [.tmp 4],
 .seq (.ops [⟨some 4, .move (.const (.bool false)), none⟩])
 (.seq (.seq (.ops [⟨some 15, .move (.tmp 0), none⟩,
 ⟨some 16, .call (F 174) [.tmp 15], none⟩,
 ⟨some 17, .bin .eql (.tmp 16) (.const (.int .i64 0)), none⟩])
 (.cond (.tmp 17)
 (.seq (.ops [⟨some 18, .call (F 175) [], none⟩,
 ⟨some 4, .move (.tmp 18), none⟩])
 (.ret))
 (.skip)))
 (.seq (.ops [⟨some 19, .call (F 132) [], none⟩,
 ⟨some 5, .move (.tmp 19), none⟩])
 (.seq (.ops [⟨some 6, .move (.const (.slice none 0 0)), none⟩])
 (.seq (.seq (.ops [⟨some 7, .move (.const (.int .i64 0)), none⟩])
 (.block 0 (.loop (.seq (.seq (.ops [⟨some 20, .move (.tmp 7), none⟩,
 ⟨some 21, .move (.tmp 0), none⟩,
 ⟨some 22, .lenSl (.tmp 21), none⟩,
 ⟨some 23, .bin .lss (.tmp 20) (.tmp 22), none⟩])
 (.cond (.tmp 23)
 (.skip)
 (.exit 0)))
 (.seq (.block 1 (.seq (.ops [⟨some 27, .move (.tmp 5), none⟩,
 ⟨some 28, .move (.tmp 6), none⟩,
 ⟨some 29, .move (.tmp 0), none⟩,
 ⟨some 30, .move (.tmp 7), none⟩,
 ⟨some 31, .idxSl 5 (.tmp 29) (.tmp 30), none⟩,
 ⟨some 32, .loadN 5 (.tmp 31), none⟩,
 ⟨some 33, .call (F 176) [.tmp 27, .tmp 28, .tmp 32], none⟩,
 ⟨some 26, .move (.tmp 33), none⟩,
 ⟨some 34, .extract (.tmp 26) 0, none⟩,
 ⟨some 35, .extract (.tmp 26) 1, none⟩,
 ⟨some 8, .move (.tmp 34), none⟩,
 ⟨some 9, .move (.tmp 35), none⟩])
 (.seq (.ops [⟨some 36, .move (.tmp 8), none⟩,
 ⟨some 6, .move (.tmp 36), none⟩])
 (.seq (.ops [⟨some 37, .move (.tmp 9), none⟩,
 ⟨some 38, .un .not (.tmp 37), none⟩])
 (.cond (.tmp 38)
 (.seq (.ops [⟨some 4, .move (.const (.bool false)), none⟩])
 (.ret))
 (.skip))))))
 (.ops [⟨some 24, .move (.tmp 7), none⟩,
 ⟨some 25, .bin .add (.tmp 24) (.const (.int .i64 1)), none⟩,
 ⟨some 7, .move (.tmp 25), none⟩]))))))
 (.seq (.ops [⟨some 39, .move (.tmp 5), none⟩,
 ⟨some 40, .move (.tmp 1), none⟩,
 ⟨some 41, .call (F 140) [.tmp 39, .tmp 40], none⟩,
 ⟨some 10, .move (.tmp 41), none⟩])
 (.seq (.ops [⟨some 11, .move (.const (.int .i64 0)), none⟩])
 (.seq (.seq (.ops [⟨some 12, .move (.const (.int .i64 0)), none⟩])
 (.block 2 (.loop (.seq (.seq (.ops [⟨some 42, .move (.tmp 12), none⟩,
 ⟨some 43, .move (.tmp 6), none⟩,
 ⟨some 44, .lenSl (.tmp 43), none⟩,
 ⟨some 45, .bin .lss (.tmp 42) (.tmp 44), none⟩])
 (.cond (.tmp 45)
 (.skip)
 (.exit 2)))
 (.seq (.block 3 (.seq (.ops [⟨some 49, .move (.tmp 5), none⟩,
 ⟨some 50, .move (.tmp 12), none⟩,
 ⟨some 51, .call (F 143) [.tmp 49, .tmp 50], none⟩,
 ⟨some 48, .move (.tmp 51), none⟩,
 ⟨some 52, .extract (.tmp 48) 0, none⟩,
 ⟨some 53, .extract (.tmp 48) 1, none⟩,
 ⟨some 13, .alloc [.int .i64 0, .int .i64 0, .int .i64 0, .int .i64 0, .int .i64 0, .slice none 0 0], none⟩,
 ⟨none, .store 6 (.tmp 13) (.tmp 52), none⟩,
 ⟨some 14, .move (.tmp 53), none⟩])
 (.seq (.ops [⟨some 54, .move (.tmp 6), none⟩,
 ⟨some 55, .move (.tmp 12), none⟩,
 ⟨some 56, .idxSl 6 (.tmp 54) (.tmp 55), none⟩,
 ⟨some 57, .fieldAddr 1 (.tmp 56), none⟩,
 ⟨some 58, .load1 (.tmp 57), none⟩,
 ⟨some 59, .bin .eql (.tmp 58) (.const (.int .i64 1)), none⟩,
 ⟨some 60, .move (.tmp 59), none⟩,
 ⟨some 61, .move (.tmp 6), some (60, true)⟩,
 ⟨some 62, .move (.tmp 12), some (60, true)⟩,
 ⟨some 63, .idxSl 6 (.tmp 61) (.tmp 62), some (60, true)⟩,
 ⟨some 64, .fieldAddr 2 (.tmp 63), some (60, true)⟩,
 ⟨some 65, .load1 (.tmp 64), some (60, true)⟩,
 ⟨some 66, .move (.tmp 1), some (60, true)⟩,
 ⟨some 67, .bin .eql (.tmp 65) (.tmp 66), some (60, true)⟩,
 ⟨some 68, .pick (.tmp 60) (.tmp 67) (.const (.bool false)), none⟩])
 (.cond (.tmp 68)
 (.seq (.seq (.ops [⟨some 69, .fieldAddr 1 (.tmp 13), none⟩,
 ⟨some 70, .load1 (.tmp 69), none⟩,
 ⟨some 71, .bin .neq (.tmp 70) (.const (.int .i64 3)), none⟩,
 ⟨some 72, .move (.tmp 71), none⟩,
 ⟨some 73, .move (.tmp 11), some (72, false)⟩,
 ⟨some 74, .move (.tmp 10), some (72, false)⟩,
 ⟨some 75, .lenSl (.tmp 74), some (72, false)⟩,
 ⟨some 76, .bin .geq (.tmp 73) (.tmp 75), some (72, false)⟩,
 ⟨some 77, .pick (.tmp 72) (.const (.bool true)) (.tmp 76), none⟩,
 ⟨some 78, .move (.tmp 77), none⟩,
 ⟨some 79, .move (.tmp 10), some (78, false)⟩,
 ⟨some 80, .move (.tmp 11), some (78, false)⟩,
 ⟨some 81, .idxSl 1 (.tmp 79) (.tmp 80), some (78, false)⟩,
 ⟨some 82, .load1 (.tmp 81), some (78, false)⟩,
 ⟨some 83, .move (.tmp 12), some (78, false)⟩,
 ⟨some 84, .bin .neq (.tmp 82) (.tmp 83), some (78, false)⟩,
 ⟨some 85, .pick (.tmp 78) (.const (.bool true)) (.tmp 84), none⟩])
 (.cond (.tmp 85)
 (.seq (.ops [⟨some 4, .move (.const (.bool false)), none⟩])
 (.ret))
 (.skip)))
 (.ops [⟨some 86, .move (.tmp 11), none⟩,
 ⟨some 87, .bin .add (.tmp 86) (.const (.int .i64 1)), none⟩,
 ⟨some 11, .move (.tmp 87), none⟩]))
 (.seq (.draw [(⟨some 88, .loadN 6 (.tmp 13), none⟩, []),
 (⟨some 89, .move (.tmp 6), none⟩, []),
 (⟨some 90, .move (.tmp 12), none⟩, []),
 (⟨some 91, .idxSl 6 (.tmp 89) (.tmp 90), none⟩, []),
 (⟨some 92, .loadN 6 (.tmp 91), none⟩, []),
 (⟨some 93, .call (F 167) [.tmp 88, .tmp 92], none⟩, []),
 (⟨some 94, .un .not (.tmp 93), none⟩, [])])
 (.cond (.tmp 94)
 (.seq (.ops [⟨some 4, .move (.const (.bool false)), none⟩])
 (.ret))
 (.skip)))))))
 (.ops [⟨some 46, .move (.tmp 12), none⟩,
 ⟨some 47, .bin .add (.tmp 46) (.const (.int .i64 1)), none⟩,
 ⟨some 12, .move (.tmp 47), none⟩]))))))
 (.seq (.ops [⟨some 95, .move (.tmp 11), none⟩,
 ⟨some 96, .move (.tmp 10), none⟩,
 ⟨some 97, .lenSl (.tmp 96), none⟩,
 ⟨some 98, .bin .eql (.tmp 95) (.tmp 97), none⟩,
 ⟨some 99, .move (.tmp 98), none⟩,
 ⟨some 100, .call (F 175) [], some (99, true)⟩,
 ⟨some 101, .pick (.tmp 99) (.tmp 100) (.const (.bool false)), none⟩,
 ⟨some 4, .move (.tmp 101), none⟩])
 (.ret)))))))))⟩
/-- hurdle/hurdlelaw24.SmapNone -/
def c_hurdlelaw24_SmapNone (F : Nat → FuncId) (Ty : Nat → TypeId) : IFunc := ⟨102, [.tmp 2],
 .seq (.ops [⟨some 1, .box (.tmp 0), none⟩,
 ⟨some 2, .move (.const (.bool false)), none⟩])
 (.seq (.ops [⟨some 3, .move (.const (.pointer none)), none⟩])
 (.seq (.ops [⟨some 9, .move (.tmp 3), none⟩,
 ⟨some 10, .fieldAddr 1 (.tmp 1), none⟩,
 ⟨some 11, .load1 (.tmp 10), none⟩,
 ⟨some 12, .fieldAddr 2 (.tmp 1), none⟩,
 ⟨some 13, .load1 (.tmp 12), none⟩,
 ⟨some 14, .fieldAddr 3 (.tmp 1), none⟩,
 ⟨some 15, .load1 (.tmp 14), none⟩,
 ⟨some 16, .fieldAddr 4 (.tmp 1), none⟩,
 ⟨some 17, .load1 (.tmp 16), none⟩,
 ⟨some 18, .call (F 135) [.tmp 9, .tmp 11, .tmp 13, .tmp 15, .tmp 17], none⟩,
 ⟨some 8, .move (.tmp 18), none⟩,
 ⟨some 19, .extract (.tmp 8) 0, none⟩,
 ⟨some 20, .extract (.tmp 8) 1, none⟩,
 ⟨some 4, .move (.tmp 19), none⟩,
 ⟨some 5, .move (.tmp 20), none⟩])
 (.seq (.ops [⟨some 22, .move (.tmp 3), none⟩,
 ⟨some 23, .fieldAddr 1 (.tmp 1), none⟩,
 ⟨some 24, .load1 (.tmp 23), none⟩,
 ⟨some 25, .call (F 143) [.tmp 22, .tmp 24], none⟩,
 ⟨some 21, .move (.tmp 25), none⟩,
 ⟨some 26, .extract (.tmp 21) 0, none⟩,
 ⟨some 27, .extract (.tmp 21) 1, none⟩,
 ⟨some 6, .alloc [.int .i64 0, .int .i64 0, .int .i64 0, .int .i64 0, .int .i64 0, .slice none 0 0], none⟩,
 ⟨none, .store 6 (.tmp 6) (.tmp 26), none⟩,
 ⟨some 7, .move (.tmp 27), none⟩])
 (.seq (.ops [⟨some 28, .move (.tmp 4), none⟩,
 ⟨some 29, .bin .eql (.tmp 28) (.const (.int .i64 0)), none⟩,
 ⟨some 30, .move (.tmp 29), none⟩,
 ⟨some 31, .move (.tmp 5), some (30, true)⟩,
 ⟨some 32, .bin .eql (.tmp 31) (.const (.int .i64 1)), some (30, true)⟩,
 ⟨some 33, .pick (.tmp 30) (.tmp 32) (.const (.bool false)), none⟩,
 ⟨some 34, .move (.tmp 33), none⟩,
 ⟨some 35, .move (.tmp 3), some (34, true)⟩,
 ⟨some 36, .fieldAddr 1 (.tmp 1), some (34, true)⟩,
 ⟨some 37, .load1 (.tmp 36), some (34, true)⟩,
 ⟨some 38, .fieldAddr 2 (.tmp 1), some (34, true)⟩,
 ⟨some 39, .load1 (.tmp 38), some (34, true)⟩,
 ⟨some 40, .call (F 137) [.tmp 35, .tmp 37, .tmp 39], some (34, true)⟩,
 ⟨some 41, .bin .eql (.tmp 40) (.const (.int .i64 1)), some (34, true)⟩,
 ⟨some 42, .pick (.tmp 34) (.tmp 41) (.const (.bool false)), none⟩,
 ⟨some 43, .move (.tmp 42), none⟩,
 ⟨some 44, .move (.tmp 3), some (43, true)⟩,
 ⟨some 45, .fieldAddr 1 (.tmp 1), some (43, true)⟩,
 ⟨some 46, .load1 (.tmp 45), some (43, true)⟩,
 ⟨some 47, .call (F 138) [.tmp 44, .tmp 46], some (43, true)⟩,
 ⟨some 48, .bin .eql (.tmp 47) (.const (.int .i64 1)), some (43, true)⟩,
 ⟨some 49, .pick (.tmp 43) (.tmp 48) (.const (.bool false)), none⟩,
 ⟨some 50, .move (.tmp 49), none⟩,
 ⟨some 51, .move (.tmp 3), some (50, true)⟩,
 ⟨some 52, .fieldAddr 1 (.tmp 1), some (50, true)⟩,
 ⟨some 53, .load1 (.tmp 52), some (50, true)⟩,
 ⟨some 54, .call (F 140) [.tmp 51, .tmp 53], some (50, true)⟩,
 ⟨some 55, .lenSl (.tmp 54), some (50, true)⟩,
 ⟨some 56, .bin .eql (.tmp 55) (.const (.int .i64 0)), some (50, true)⟩,
 ⟨some 57, .pick (.tmp 50) (.tmp 56) (.const (.bool false)), none⟩,
 ⟨some 58, .move (.tmp 57), none⟩,
 ⟨some 59, .move (.tmp 3), some (58, true)⟩,
 ⟨some 60, .fieldAddr 1 (.tmp 1), some (58, true)⟩,
 ⟨some 61, .load1 (.tmp 60), some (58, true)⟩,
 ⟨some 62, .fieldAddr 2 (.tmp 1), some (58, true)⟩,
 ⟨some 63, .load1 (.tmp 62), some (58, true)⟩,
 ⟨some 64, .fieldAddr 3 (.tmp 1), some (58, true)⟩,
 ⟨some 65, .load1 (.tmp 64), some (58, true)⟩,
 ⟨some 66, .call (F 142) [.tmp 59, .tmp 61, .tmp 63, .tmp 65], some (58, true)⟩,
 ⟨some 67, .bin .eql (.tmp 66) (.const (.int .i64 1)), some (58, true)⟩,
 ⟨some 68, .pick (.tmp 58) (.tmp 67) (.const (.bool false)), none⟩,
 ⟨some 69, .move (.tmp 68), none⟩,
 ⟨some 70, .loadN 6 (.tmp 6), some (69, true)⟩,
 ⟨some 71, .build [.int .i64 0, .int .i64 0, .int .i64 0, .int .i64 0, .int .i64 0, .slice none 0 0] [], some (69, true)⟩,
 ⟨some 72, .call (F 167) [.tmp 70, .tmp 71], some (69, true)⟩,
 ⟨some 73, .pick (.tmp 69) (.tmp 72) (.const (.bool false)), none⟩,
 ⟨some 74, .move (.tmp 73), none⟩,
 ⟨some 75, .move (.tmp 7), some (74, true)⟩,
 ⟨some 76, .un .not (.tmp 75), some (74, true)⟩,
 ⟨some 77, .pick (.tmp 74) (.tmp 76) (.const (.bool false)), none⟩,
 ⟨some 78, .move (.tmp 77), none⟩,
 ⟨some 79, .move (.tmp 3), some (78, true)⟩,
 ⟨some 80, .fieldAddr 1 (.tmp 1), some (78, true)⟩,
 ⟨some 81, .load1 (.tmp 80), some (78, true)⟩,
 ⟨some 82, .call (F 144) [.tmp 79, .tmp 81], some (78, true)⟩,
 ⟨some 83, .lenSl (.tmp 82), some (78, true)⟩,
 ⟨some 84, .bin .eql (.tmp 83) (.const (.int .i64 0)), some (78, true)⟩,
 ⟨some 85, .pick (.tmp 78) (.tmp 84) (.const (.bool false)), none⟩,
 ⟨some 86, .move (.tmp 85), none⟩,
 ⟨some 87, .move (.tmp 3), some (86, true)⟩,
 ⟨some 88, .fieldAddr 1 (.tmp 1), some (86, true)⟩,
 ⟨some 89, .load1 (.tmp 88), some (86, true)⟩,
 ⟨some 90, .call (F 146) [.tmp 87, .tmp 89], some (86, true)⟩,
 ⟨some 91, .lenSl (.tmp 90), some (86, true)⟩,
 ⟨some 92, .bin .eql (.tmp 91) (.const (.int .i64 0)), some (86, true)⟩,
 ⟨some 93, .pick (.tmp 86) (.tmp 92) (.const (.bool false)), none⟩,
 ⟨some 94, .move (.tmp 93), none⟩,
 ⟨some 95, .move (.tmp 3), some (94, true)⟩,
 ⟨some 96, .call (F 148) [.tmp 95], some (94, true)⟩,
 ⟨some 97, .bin .eql (.tmp 96) (.const (.string ⟨#[]⟩)), some (94, true)⟩,
 ⟨some 98, .pick (.tmp 94) (.tmp 97) (.const (.bool false)), none⟩,
 ⟨some 99, .move (.tmp 98), none⟩,
 ⟨some 100, .call (F 175) [], some (99, true)⟩,
 ⟨some 101, .pick (.tmp 99) (.tmp 100) (.const (.bool false)), none⟩,
 ⟨some 2, .move (.tmp 101), none⟩])
 (.ret)))))⟩
/-- hurdle/hurdlelaw24.Few -/
def c_hurdlelaw24_Few (F : Nat → FuncId) (Ty : Nat → TypeId) : IFunc := ⟨20, [.tmp 2],
 .seq (.ops [⟨some 2, .move (.const (.int .i64 0)), none⟩])
 (.seq (.seq (.ops [⟨some 4, .move (.tmp 0), none⟩,
 ⟨some 5, .lenSl (.tmp 4), none⟩,
 ⟨some 6, .bin .gtr (.tmp 5) (.const (.int .i64 80)), none⟩])
 (.cond (.tmp 6)
 (.seq (.ops [⟨some 2, .move (.const (.int .i64 0)), none⟩])
 (.ret))
 (.skip)))
 (.seq (.seq (.ops [⟨some 3, .move (.const (.int .i64 0)), none⟩])
 (.block 0 (.loop (.seq (.seq (.ops [⟨some 7, .move (.tmp 3), none⟩,
 ⟨some 8, .move (.tmp 0), none⟩,
 ⟨some 9, .lenSl (.tmp 8), none⟩,
 ⟨some 10, .bin .lss (.tmp 7) (.tmp 9), none⟩])
 (.cond (.tmp 10)
 (.skip)
 (.exit 0)))
 (.seq (.block 1 (.seq (.ops [⟨some 13, .move (.tmp 0), none⟩,
 ⟨some 14, .move (.tmp 3), none⟩,
 ⟨some 15, .idxSl 5 (.tmp 13) (.tmp 14), none⟩,
 ⟨some 16, .fieldAddr 4 (.tmp 15), none⟩,
 ⟨some 17, .load1 (.tmp 16), none⟩,
 ⟨some 18, .lenSl (.tmp 17), none⟩,
 ⟨some 19, .bin .gtr (.tmp 18) (.const (.int .i64 20)), none⟩])
 (.cond (.tmp 19)
 (.seq (.ops [⟨some 2, .move (.const (.int .i64 0)), none⟩])
 (.ret))
 (.skip))))
 (.ops [⟨some 11, .move (.tmp 3), none⟩,
 ⟨some 12, .bin .add (.tmp 11) (.const (.int .i64 1)), none⟩,
 ⟨some 3, .move (.tmp 12), none⟩]))))))
 (.seq (.ops [⟨some 2, .move (.const (.int .i64 1)), none⟩])
 (.ret))))⟩
/-- hurdle/hurdlelaw24.awake -/
def c_hurdlelaw24_awake (F : Nat → FuncId) (Ty : Nat → TypeId) : IFunc := ⟨93, [.tmp 0],
 .seq (.ops [⟨some 0, .move (.const (.bool false)), none⟩])
 (.seq (.ops [⟨some 13, .call (F 132) [], none⟩,
 ⟨some 1, .move (.tmp 13), none⟩])
 (.seq (.seq (.ops [⟨some 14, .move (.tmp 1), none⟩,
 ⟨some 15, .eqNil 0 false (.tmp 14), none⟩])
 (.cond (.tmp 15)
 (.seq (.ops [⟨some 0, .move (.const (.bool false)), none⟩])
 (.ret))
 (.skip)))
 (.seq (.ops [⟨some 17, .move (.tmp 1), none⟩,
 ⟨some 18, .buildSlice 3 [.int .i64 0, .int .i64 0, .int .i64 0] [((0, 1), .const (.int .i64 5)), ((1, 1), .const (.int .i64 6)), ((2, 1), .const (.int .i64 7))], none⟩,
 ⟨some 19, .call (F 135) [.tmp 17, .const (.int .i64 1), .const (.int .i64 1), .const (.int .i64 10), .tmp 18], none⟩,
 ⟨some 16, .move (.tmp 19), none⟩,
 ⟨some 20, .extract (.tmp 16) 0, none⟩,
 ⟨some 21, .extract (.tmp 16) 1, none⟩,
 ⟨some 2, .move (.tmp 20), none⟩,
 ⟨some 3, .move (.tmp 21), none⟩])
 (.seq (.ops [⟨some 22, .move (.tmp 1), none⟩,
 ⟨some 23, .call (F 137) [.tmp 22, .const (.int .i64 0), .const (.int .i64 1)], none⟩,
 ⟨some 24, .move (.tmp 1), none⟩,
 ⟨some 25, .call (F 137) [.tmp 24, .const (.int .i64 0), .const (.int .i64 1)], none⟩,
 ⟨some 4, .move (.tmp 23), none⟩,
 ⟨some 5, .move (.tmp 25), none⟩])
 (.seq (.ops [⟨some 27, .move (.tmp 1), none⟩,
 ⟨some 28, .call (F 143) [.tmp 27, .const (.int .i64 0)], none⟩,
 ⟨some 26, .move (.tmp 28), none⟩,
 ⟨some 29, .extract (.tmp 26) 0, none⟩,
 ⟨some 30, .extract (.tmp 26) 1, none⟩,
 ⟨some 6, .alloc [.int .i64 0, .int .i64 0, .int .i64 0, .int .i64 0, .int .i64 0, .slice none 0 0], none⟩,
 ⟨none, .store 6 (.tmp 6) (.tmp 29), none⟩,
 ⟨some 7, .move (.tmp 30), none⟩])
 (.seq (.ops [⟨some 31, .move (.tmp 1), none⟩,
 ⟨some 32, .call (F 142) [.tmp 31, .const (.int .i64 0), .const (.int .i64 1), .const (.int .i64 9)], none⟩,
 ⟨some 8, .move (.tmp 32), none⟩])
 (.seq (.ops [⟨some 33, .move (.tmp 1), none⟩,
 ⟨some 34, .call (F 146) [.tmp 33, .const (.int .i64 9)], none⟩,
 ⟨some 9, .move (.tmp 34), none⟩])
 (.seq (.ops [⟨some 35, .move (.tmp 1), none⟩,
 ⟨some 36, .call (F 138) [.tmp 35, .const (.int .i64 0)], none⟩,
 ⟨some 10, .move (.tmp 36), none⟩])
 (.seq (.ops [⟨some 38, .move (.tmp 1), none⟩,
 ⟨some 39, .call (F 148) [.tmp 38], none⟩,
 ⟨some 40, .call (F 152) [.tmp 39], none⟩,
 ⟨some 37, .move (.tmp 40), none⟩,
 ⟨some 41, .extract (.tmp 37) 0, none⟩,
 ⟨some 42, .extract (.tmp 37) 1, none⟩,
 ⟨some 11, .move (.tmp 41), none⟩,
 ⟨some 12, .move (.tmp 42), none⟩])
 (.seq (.ops [⟨some 43, .move (.tmp 2), none⟩,
 ⟨some 44, .bin .eql (.tmp 43) (.const (.int .i64 0)), none⟩,
 ⟨some 45, .move (.tmp 44), none⟩,
 ⟨some 46, .move (.tmp 3), some (45, true)⟩,
 ⟨some 47, .bin .eql (.tmp 46) (.const (.int .i64 0)), some (45, true)⟩,
 ⟨some 48, .pick (.tmp 45) (.tmp 47) (.const (.bool false)), none⟩,
 ⟨some 49, .move (.tmp 48), none⟩,
 ⟨some 50, .move (.tmp 4), some (49, true)⟩,
 ⟨some 51, .bin .eql (.tmp 50) (.const (.int .i64 0)), some (49, true)⟩,
 ⟨some 52, .pick (.tmp 49) (.tmp 51) (.const (.bool false)), none⟩,
 ⟨some 53, .move (.tmp 52), none⟩,
 ⟨some 54, .move (.tmp 5), some (53, true)⟩,
 ⟨some 55, .bin .eql (.tmp 54) (.const (.int .i64 16)), some (53, true)⟩,
 ⟨some 56, .pick (.tmp 53) (.tmp 55) (.const (.bool false)), none⟩,
 ⟨some 57, .move (.tmp 56), none⟩,
 ⟨some 58, .fieldAddr 1 (.tmp 6), some (57, true)⟩,
 ⟨some 59, .load1 (.tmp 58), some (57, true)⟩,
 ⟨some 60, .bin .eql (.tmp 59) (.const (.int .i64 2)), some (57, true)⟩,
 ⟨some 61, .pick (.tmp 57) (.tmp 60) (.const (.bool false)), none⟩,
 ⟨some 62, .move (.tmp 61), none⟩,
 ⟨some 63, .move (.tmp 7), some (62, true)⟩,
 ⟨some 64, .pick (.tmp 62) (.tmp 63) (.const (.bool false)), none⟩,
 ⟨some 65, .move (.tmp 64), none⟩,
 ⟨some 66, .move (.tmp 8), some (65, true)⟩,
 ⟨some 67, .bin .eql (.tmp 66) (.const (.int .i64 0)), some (65, true)⟩,
 ⟨some 68, .pick (.tmp 65) (.tmp 67) (.const (.bool false)), none⟩,
 ⟨some 69, .move (.tmp 68), none⟩,
 ⟨some 70, .move (.tmp 9), some (69, true)⟩,
 ⟨some 71, .buildSlice 1 [.int .i64 0] [((0, 1), .const (.int .i64 0))], some (69, true)⟩,
 ⟨some 72, .call (F 69) [.tmp 70, .tmp 71], some (69, true)⟩,
 ⟨some 73, .pick (.tmp 69) (.tmp 72) (.const (.bool false)), none⟩,
 ⟨some 74, .move (.tmp 73), none⟩,
 ⟨some 75, .move (.tmp 10), some (74, true)⟩,
 ⟨some 76, .bin .eql (.tmp 75) (.const (.int .i64 0)), some (74, true)⟩,
 ⟨some 77, .pick (.tmp 74) (.tmp 76) (.const (.bool false)), none⟩,
 ⟨some 78, .move (.tmp 77), none⟩,
 ⟨some 79, .move (.tmp 12), some (78, true)⟩,
 ⟨some 80, .bin .eql (.tmp 79) (.const (.int .i64 0)), some (78, true)⟩,
 ⟨some 81, .pick (.tmp 78) (.tmp 80) (.const (.bool false)), none⟩,
 ⟨some 82, .move (.tmp 81), none⟩,
 ⟨some 83, .move (.tmp 11), some (82, true)⟩,
 ⟨some 84, .call (F 144) [.tmp 83, .const (.int .i64 3)], some (82, true)⟩,
 ⟨some 85, .buildSlice 1 [.int .i64 0] [((0, 1), .const (.int .i64 0))], some (82, true)⟩,
 ⟨some 86, .call (F 69) [.tmp 84, .tmp 85], some (82, true)⟩,
 ⟨some 87, .pick (.tmp 82) (.tmp 86) (.const (.bool false)), none⟩,
 ⟨some 88, .move (.tmp 87), none⟩,
 ⟨some 89, .move (.tmp 1), some (88, true)⟩,
 ⟨some 90, .call (F 137) [.tmp 89, .const (.int .i64 1), .const (.int .i64 1)], some (88, true)⟩,
 ⟨some 91, .bin .eql (.tmp 90) (.const (.int .i64 7)), some (88, true)⟩,
 ⟨some 92, .pick (.tmp 88) (.tmp 91) (.const (.bool false)), none⟩,
 ⟨some 0, .move (.tmp 92), none⟩])
 (.ret)))))))))))⟩
/-- hurdle/hurdlelaw24.do -/
def c_hurdlelaw24_do (F : Nat → FuncId) (Ty : Nat → TypeId) : IFunc := ⟨138, [.tmp 6, .tmp 7],
 .seq (.ops [⟨some 5, .box (.tmp 2), none⟩,
 ⟨some 6, .move (.const (.slice none 0 0)), none⟩,
 ⟨some 7, .move (.const (.bool false)), none⟩])
 (.seq (.seq (.ops [⟨some 21, .fieldAddr 0 (.tmp 5), none⟩,
 ⟨some 22, .load1 (.tmp 21), none⟩])
 (.block 0 (.seq (.ops [⟨some 24, .bin .eql (.tmp 22) (.const (.int .i64 0)), none⟩,
 ⟨some 23, .move (.tmp 24), none⟩])
 (.cond (.tmp 23)
 (.seq (.ops [⟨some 26, .move (.tmp 1), none⟩,
 ⟨some 27, .fieldAddr 1 (.tmp 5), none⟩,
 ⟨some 28, .load1 (.tmp 27), none⟩,
 ⟨some 29, .fieldAddr 2 (.tmp 5), none⟩,
 ⟨some 30, .load1 (.tmp 29), none⟩,
 ⟨some 31, .fieldAddr 3 (.tmp 5), none⟩,
 ⟨some 32, .load1 (.tmp 31), none⟩,
 ⟨some 33, .fieldAddr 4 (.tmp 5), none⟩,
 ⟨some 34, .load1 (.tmp 33), none⟩,
 ⟨some 35, .call (F 157) [.tmp 26, .tmp 28, .tmp 30, .tmp 32, .tmp 34], none⟩,
 ⟨some 25, .move (.tmp 35), none⟩,
 ⟨some 36, .extract (.tmp 25) 0, none⟩,
 ⟨some 37, .extract (.tmp 25) 1, none⟩,
 ⟨some 38, .extract (.tmp 25) 2, none⟩,
 ⟨some 8, .move (.tmp 36), none⟩,
 ⟨some 9, .move (.tmp 37), none⟩,
 ⟨some 10, .move (.tmp 38), none⟩])
 (.seq (.ops [⟨some 40, .move (.tmp 0), none⟩,
 ⟨some 41, .fieldAddr 1 (.tmp 5), none⟩,
 ⟨some 42, .load1 (.tmp 41), none⟩,
 ⟨some 43, .fieldAddr 2 (.tmp 5), none⟩,
 ⟨some 44, .load1 (.tmp 43), none⟩,
 ⟨some 45, .fieldAddr 3 (.tmp 5), none⟩,
 ⟨some 46, .load1 (.tmp 45), none⟩,
 ⟨some 47, .fieldAddr 4 (.tmp 5), none⟩,
 ⟨some 48, .load1 (.tmp 47), none⟩,
 ⟨some 49, .call (F 135) [.tmp 40, .tmp 42, .tmp 44, .tmp 46, .tmp 48], none⟩,
 ⟨some 39, .move (.tmp 49), none⟩,
 ⟨some 50, .extract (.tmp 39) 0, none⟩,
 ⟨some 51, .extract (.tmp 39) 1, none⟩,
 ⟨some 11, .move (.tmp 50), none⟩,
 ⟨some 12, .move (.tmp 51), none⟩])
 (.seq (.ops [⟨some 52, .move (.tmp 8), none⟩,
 ⟨some 53, .move (.tmp 11), none⟩,
 ⟨some 54, .move (.tmp 9), none⟩,
 ⟨some 55, .bin .eql (.tmp 53) (.tmp 54), none⟩,
 ⟨some 56, .move (.tmp 55), none⟩,
 ⟨some 57, .move (.tmp 12), some (56, true)⟩,
 ⟨some 58, .move (.tmp 10), some (56, true)⟩,
 ⟨some 59, .bin .eql (.tmp 57) (.tmp 58), some (56, true)⟩,
 ⟨some 60, .pick (.tmp 56) (.tmp 59) (.const (.bool false)), none⟩,
 ⟨some 6, .move (.tmp 52), none⟩,
 ⟨some 7, .move (.tmp 60), none⟩])
 (.ret))))
 (.seq (.ops [⟨some 62, .bin .eql (.tmp 22) (.const (.int .i64 1)), none⟩,
 ⟨some 61, .move (.tmp 62), none⟩])
 (.cond (.tmp 61)
 (.seq (.ops [⟨some 64, .move (.tmp 1), none⟩,
 ⟨some 65, .fieldAddr 1 (.tmp 5), none⟩,
 ⟨some 66, .load1 (.tmp 65), none⟩,
 ⟨some 67, .fieldAddr 2 (.tmp 5), none⟩,
 ⟨some 68, .load1 (.tmp 67), none⟩,
 ⟨some 69, .call (F 160) [.tmp 64, .tmp 66, .tmp 68], none⟩,
 ⟨some 63, .move (.tmp 69), none⟩,
 ⟨some 70, .extract (.tmp 63) 0, none⟩,
 ⟨some 71, .extract (.tmp 63) 1, none⟩,
 ⟨some 13, .move (.tmp 70), none⟩,
 ⟨some 14, .move (.tmp 71), none⟩])
 (.seq (.ops [⟨some 72, .move (.tmp 13), none⟩,
 ⟨some 73, .move (.tmp 0), none⟩,
 ⟨some 74, .fieldAddr 1 (.tmp 5), none⟩,
 ⟨some 75, .load1 (.tmp 74), none⟩,
 ⟨some 76, .fieldAddr 2 (.tmp 5), none⟩,
 ⟨some 77, .load1 (.tmp 76), none⟩,
 ⟨some 78, .call (F 137) [.tmp 73, .tmp 75, .tmp 77], none⟩,
 ⟨some 79, .move (.tmp 14), none⟩,
 ⟨some 80, .bin .eql (.tmp 78) (.tmp 79), none⟩,
 ⟨some 6, .move (.tmp 72), none⟩,
 ⟨some 7, .move (.tmp 80), none⟩])
 (.ret)))
 (.seq (.ops [⟨some 82, .bin .eql (.tmp 22) (.const (.int .i64 2)), none⟩,
 ⟨some 81, .move (.tmp 82), none⟩])
 (.cond (.tmp 81)
 (.seq (.ops [⟨some 84, .move (.tmp 1), none⟩,
 ⟨some 85, .fieldAddr 1 (.tmp 5), none⟩,
 ⟨some 86, .load1 (.tmp 85), none⟩,
 ⟨some 87, .call (F 161) [.tmp 84, .tmp 86], none⟩,
 ⟨some 83, .move (.tmp 87), none⟩,
 ⟨some 88, .extract (.tmp 83) 0, none⟩,
 ⟨some 89, .extract (.tmp 83) 1, none⟩,
 ⟨some 15, .move (.tmp 88), none⟩,
 ⟨some 16, .move (.tmp 89), none⟩])
 (.seq (.ops [⟨some 90, .move (.tmp 15), none⟩,
 ⟨some 91, .move (.tmp 0), none⟩,
 ⟨some 92, .fieldAddr 1 (.tmp 5), none⟩,
 ⟨some 93, .load1 (.tmp 92), none⟩,
 ⟨some 94, .call (F 138) [.tmp 91, .tmp 93], none⟩,
 ⟨some 95, .move (.tmp 16), none⟩,
 ⟨some 96, .bin .eql (.tmp 94) (.tmp 95), none⟩,
 ⟨some 6, .move (.tmp 90), none⟩,
 ⟨some 7, .move (.tmp 96), none⟩])
 (.ret)))
 (.seq (.ops [⟨some 98, .bin .eql (.tmp 22) (.const (.int .i64 3)), none⟩,
 ⟨some 97, .move (.tmp 98), none⟩])
 (.cond (.tmp 97)
 (.seq (.ops [⟨some 100, .move (.tmp 1), none⟩,
 ⟨some 101, .fieldAddr 1 (.tmp 5), none⟩,
 ⟨some 102, .load1 (.tmp 101), none⟩,
 ⟨some 103, .call (F 162) [.tmp 100, .tmp 102], none⟩,
 ⟨some 99, .move (.tmp 103), none⟩,
 ⟨some 104, .extract (.tmp 99) 0, none⟩,
 ⟨some 105, .extract (.tmp 99) 1, none⟩,
 ⟨some 17, .move (.tmp 104), none⟩,
 ⟨some 18, .move (.tmp 105), none⟩])
 (.seq (.ops [⟨some 106, .move (.tmp 17), none⟩,
 ⟨some 107, .move (.tmp 0), none⟩,
 ⟨some 108, .fieldAddr 1 (.tmp 5), none⟩,
 ⟨some 109, .load1 (.tmp 108), none⟩,
 ⟨some 110, .call (F 140) [.tmp 107, .tmp 109], none⟩,
 ⟨some 111, .move (.tmp 18), none⟩,
 ⟨some 112, .call (F 69) [.tmp 110, .tmp 111], none⟩,
 ⟨some 6, .move (.tmp 106), none⟩,
 ⟨some 7, .move (.tmp 112), none⟩])
 (.ret)))
 (.seq (.ops [⟨some 114, .bin .eql (.tmp 22) (.const (.int .i64 4)), none⟩,
 ⟨some 113, .move (.tmp 114), none⟩])
 (.cond (.tmp 113)
 (.seq (.ops [⟨some 116, .move (.tmp 1), none⟩,
 ⟨some 117, .fieldAddr 1 (.tmp 5), none⟩,
 ⟨some 118, .load1 (.tmp 117), none⟩,
 ⟨some 119, .fieldAddr 2 (.tmp 5), none⟩,
 ⟨some 120, .load1 (.tmp 119), none⟩,
 ⟨some 121, .fieldAddr 3 (.tmp 5), none⟩,
 ⟨some 122, .load1 (.tmp 121), none⟩,
 ⟨some 123, .call (F 163) [.tmp 116, .tmp 118, .tmp 120, .tmp 122], none⟩,
 ⟨some 115, .move (.tmp 123), none⟩,
 ⟨some 124, .extract (.tmp 115) 0, none⟩,
 ⟨some 125, .extract (.tmp 115) 1, none⟩,
 ⟨some 19, .move (.tmp 124), none⟩,
 ⟨some 20, .move (.tmp 125), none⟩])
 (.seq (.ops [⟨some 126, .move (.tmp 19), none⟩,
 ⟨some 127, .move (.tmp 0), none⟩,
 ⟨some 128, .fieldAddr 1 (.tmp 5), none⟩,
 ⟨some 129, .load1 (.tmp 128), none⟩,
 ⟨some 130, .fieldAddr 2 (.tmp 5), none⟩,
 ⟨some 131, .load1 (.tmp 130), none⟩,
 ⟨some 132, .fieldAddr 3 (.tmp 5), none⟩,
 ⟨some 133, .load1 (.tmp 132), none⟩,
 ⟨some 134, .call (F 142) [.tmp 127, .tmp 129, .tmp 131, .tmp 133], none⟩,
 ⟨some 135, .move (.tmp 20), none⟩,
 ⟨some 136, .bin .eql (.tmp 134) (.tmp 135), none⟩,
 ⟨some 6, .move (.tmp 126), none⟩,
 ⟨some 7, .move (.tmp 136), none⟩])
 (.ret)))
 (.skip)))))))))))))
 (.seq (.ops [⟨some 137, .move (.tmp 1), none⟩,
 ⟨some 6, .move (.tmp 137), none⟩,
 ⟨some 7, .move (.const (.bool true)), none⟩])
 (.ret)))⟩
/-- A context has these functions. -/
structure HasLaw24 (c : Ctx) : Prop where
 hurdlelaw24_SmapPlays : c.IP (c.F 169) = some (c_hurdlelaw24_SmapPlays c.F c.Ty)
 hurdlelaw24_SmapOrder : c.IP (c.F 170) = some (c_hurdlelaw24_SmapOrder c.F c.Ty)
 hurdlelaw24_SmapBack : c.IP (c.F 171) = some (c_hurdlelaw24_SmapBack c.F c.Ty)
 hurdlelaw24_SmapDrop : c.IP (c.F 172) = some (c_hurdlelaw24_SmapDrop c.F c.Ty)
 hurdlelaw24_SmapNone : c.IP (c.F 173) = some (c_hurdlelaw24_SmapNone c.F c.Ty)
 hurdlelaw24_Few : c.IP (c.F 174) = some (c_hurdlelaw24_Few c.F c.Ty)
 hurdlelaw24_awake : c.IP (c.F 175) = some (c_hurdlelaw24_awake c.F c.Ty)
 hurdlelaw24_do : c.IP (c.F 176) = some (c_hurdlelaw24_do c.F c.Ty)

end Go.Proofs.YtmdkkhnenciknaaI
