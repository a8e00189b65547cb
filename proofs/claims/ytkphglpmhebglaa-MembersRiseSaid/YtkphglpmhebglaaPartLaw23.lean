/- PRINTED by gen.py (this session's own): the intermediate form of some functions, and a context's having them. -/
import Derived.Test.YtkphglpmhebglaaPartRef23
namespace Go.Proofs.YtkphglpmhebglaaI
set_option linter.unusedSimpArgs false
set_option linter.unusedVariables false
open Go

/-- hurdle/hurdlelaw23.MembersPlays -/
abbrev n_hurdlelaw23_MembersPlays : Nat := 124
/-- hurdle/hurdlelaw23.MembersRise -/
abbrev n_hurdlelaw23_MembersRise : Nat := 125
/-- hurdle/hurdlelaw23.MembersBack -/
abbrev n_hurdlelaw23_MembersBack : Nat := 126
/-- hurdle/hurdlelaw23.MembersOne -/
abbrev n_hurdlelaw23_MembersOne : Nat := 127
/-- hurdle/hurdlelaw23.MembersNone -/
abbrev n_hurdlelaw23_MembersNone : Nat := 128
/-- hurdle/hurdlelaw23.Few -/
abbrev n_hurdlelaw23_Few : Nat := 129
/-- hurdle/hurdlelaw23.awake -/
abbrev n_hurdlelaw23_awake : Nat := 130
/-- hurdle/hurdlelaw23.do -/
abbrev n_hurdlelaw23_do : Nat := 131
/-- hurdle/hurdlelaw23.MembersPlays -/
def c_hurdlelaw23_MembersPlays (F : Nat → FuncId) (Ty : Nat → TypeId) : IFunc := ⟨101, [.tmp 4],
 .seq (.ops [⟨some 2, .box (.tmp 0), none⟩,
 ⟨some 4, .move (.const (.bool false)), none⟩])
 (.seq (.seq (.ops [⟨some 11, .loadN 2 (.tmp 2), none⟩,
 ⟨some 12, .move (.tmp 1), none⟩,
 ⟨some 13, .call (F 129) [.tmp 11, .tmp 12], none⟩,
 ⟨some 14, .bin .eql (.tmp 13) (.const (.int .i64 0)), none⟩])
 (.cond (.tmp 14)
 (.seq (.ops [⟨some 15, .call (F 130) [], none⟩,
 ⟨some 4, .move (.tmp 15), none⟩])
 (.ret))
 (.skip)))
 (.seq (.ops [⟨some 16, .fieldAddr 0 (.tmp 2), none⟩,
 ⟨some 17, .load1 (.tmp 16), none⟩,
 ⟨some 18, .fieldAddr 1 (.tmp 2), none⟩,
 ⟨some 19, .load1 (.tmp 18), none⟩,
 ⟨some 20, .call (F 97) [.tmp 17, .tmp 19], none⟩,
 ⟨some 5, .move (.tmp 20), none⟩])
 (.seq (.ops [⟨some 22, .fieldAddr 0 (.tmp 2), none⟩,
 ⟨some 23, .load1 (.tmp 22), none⟩,
 ⟨some 24, .fieldAddr 1 (.tmp 2), none⟩,
 ⟨some 25, .load1 (.tmp 24), none⟩,
 ⟨some 26, .call (F 113) [.tmp 23, .tmp 25], none⟩,
 ⟨some 21, .move (.tmp 26), none⟩,
 ⟨some 27, .extract (.tmp 21) 0, none⟩,
 ⟨some 28, .extract (.tmp 21) 1, none⟩,
 ⟨some 6, .alloc [.slice none 0 0, .slice none 0 0, .int .i64 0, .int .i64 0, .bool false, .int .i64 0], none⟩,
 ⟨none, .store 6 (.tmp 6) (.tmp 27), none⟩,
 ⟨some 7, .move (.tmp 28), none⟩])
 (.seq (.seq (.ops [⟨some 29, .move (.tmp 7), none⟩,
 ⟨some 30, .un .not (.tmp 29), none⟩,
 ⟨some 31, .move (.tmp 30), none⟩,
 ⟨some 32, .move (.tmp 5), some (31, false)⟩,
 ⟨some 33, .eqNil 0 false (.tmp 32), some (31, false)⟩,
 ⟨some 34, .pick (.tmp 31) (.const (.bool true)) (.tmp 33), none⟩])
 (.cond (.tmp 34)
 (.seq (.ops [⟨some 35, .move (.tmp 7), none⟩,
 ⟨some 36, .un .not (.tmp 35), none⟩,
 ⟨some 37, .move (.tmp 36), none⟩,
 ⟨some 38, .move (.tmp 5), some (37, true)⟩,
 ⟨some 39, .eqNil 0 false (.tmp 38), some (37, true)⟩,
 ⟨some 40, .pick (.tmp 37) (.tmp 39) (.const (.bool false)), none⟩,
 ⟨some 41, .move (.tmp 40), none⟩,
 ⟨some 42, .call (F 130) [], some (41, true)⟩,
 ⟨some 43, .pick (.tmp 41) (.tmp 42) (.const (.bool false)), none⟩,
 ⟨some 4, .move (.tmp 43), none⟩])
 (.ret))
 (.skip)))
 (.seq (.seq (.ops [⟨some 8, .move (.const (.int .i64 0)), none⟩])
 (.block 0 (.loop (.seq (.seq (.ops [⟨some 44, .move (.tmp 8), none⟩,
 ⟨some 45, .move (.tmp 1), none⟩,
 ⟨some 46, .lenSl (.tmp 45), none⟩,
 ⟨some 47, .bin .lss (.tmp 44) (.tmp 46), none⟩])
 (.cond (.tmp 47)
 (.skip)
 (.exit 0)))
 (.seq (.block 1 (.seq (.draw [(⟨some 51, .move (.tmp 5), none⟩, []),
 (⟨some 52, .loadN 6 (.tmp 6), none⟩, []),
 (⟨some 53, .move (.tmp 1), none⟩, []),
 (⟨some 54, .move (.tmp 8), none⟩, []),
 (⟨some 55, .idxSl 4 (.tmp 53) (.tmp 54), none⟩, []),
 (⟨some 56, .loadN 4 (.tmp 55), none⟩, []),
 (⟨some 9, .alloc [.slice none 0 0, .slice none 0 0, .int .i64 0, .int .i64 0, .bool false, .int .i64 0], none⟩, []),
 (⟨some 57, .call (F 131) [.tmp 51, .tmp 52, .tmp 56], none⟩, []),
 (⟨some 50, .move (.tmp 57), none⟩, []),
 (⟨some 58, .extract (.tmp 50) 0, none⟩, []),
 (⟨some 59, .extract (.tmp 50) 1, none⟩, []),
 (⟨none, .store 6 (.tmp 9) (.tmp 58), none⟩, []),
 (⟨some 10, .move (.tmp 59), none⟩, [])])
 (.seq (.ops [⟨some 60, .loadN 6 (.tmp 9), none⟩,
 ⟨none, .store 6 (.tmp 6) (.tmp 60), none⟩])
 (.seq (.draw [(⟨some 61, .move (.tmp 10), none⟩, []),
 (⟨some 62, .un .not (.tmp 61), none⟩, []),
 (⟨some 63, .move (.tmp 62), none⟩, []),
 (⟨some 64, .move (.tmp 5), some (63, false)⟩, []),
 (⟨some 66, .fieldAddr 2 (.tmp 6), some (63, false)⟩, []),
 (⟨some 67, .load1 (.tmp 66), some (63, false)⟩, []),
 (⟨some 65, .call (F 98) [.tmp 64], some (63, false)⟩, [⟨some 67, .load1 (.tmp 66), some (63, false)⟩]),
 (⟨some 68, .bin .neq (.tmp 65) (.tmp 67), some (63, false)⟩, []),
 (⟨some 69, .pick (.tmp 63) (.const (.bool true)) (.tmp 68), none⟩, []),
 (⟨some 70, .move (.tmp 69), none⟩, []),
 (⟨some 71, .move (.tmp 5), some (70, false)⟩, []),
 (⟨some 73, .fieldAddr 3 (.tmp 6), some (70, false)⟩, []),
 (⟨some 74, .load1 (.tmp 73), some (70, false)⟩, []),
 (⟨some 72, .call (F 99) [.tmp 71], some (70, false)⟩, [⟨some 74, .load1 (.tmp 73), some (70, false)⟩]),
 (⟨some 75, .bin .neq (.tmp 72) (.tmp 74), some (70, false)⟩, []),
 (⟨some 76, .pick (.tmp 70) (.const (.bool true)) (.tmp 75), none⟩, []),
 (⟨some 77, .move (.tmp 76), none⟩, []),
 (⟨some 78, .move (.tmp 5), some (77, false)⟩, []),
 (⟨some 80, .fieldAddr 0 (.tmp 6), some (77, false)⟩, []),
 (⟨some 81, .load1 (.tmp 80), some (77, false)⟩, []),
 (⟨some 79, .call (F 100) [.tmp 78], some (77, false)⟩, [⟨some 81, .load1 (.tmp 80), some (77, false)⟩]),
 (⟨some 82, .call (F 69) [.tmp 79, .tmp 81], some (77, false)⟩, []),
 (⟨some 83, .un .not (.tmp 82), some (77, false)⟩, []),
 (⟨some 84, .pick (.tmp 77) (.const (.bool true)) (.tmp 83), none⟩, []),
 (⟨some 85, .move (.tmp 84), none⟩, []),
 (⟨some 86, .move (.tmp 5), some (85, false)⟩, []),
 (⟨some 88, .fieldAddr 1 (.tmp 6), some (85, false)⟩, []),
 (⟨some 89, .load1 (.tmp 88), some (85, false)⟩, []),
 (⟨some 87, .call (F 101) [.tmp 86], some (85, false)⟩, [⟨some 89, .load1 (.tmp 88), some (85, false)⟩]),
 (⟨some 90, .call (F 69) [.tmp 87, .tmp 89], some (85, false)⟩, []),
 (⟨some 91, .un .not (.tmp 90), some (85, false)⟩, []),
 (⟨some 92, .pick (.tmp 85) (.const (.bool true)) (.tmp 91), none⟩, [])])
 (.cond (.tmp 92)
 (.seq (.ops [⟨some 4, .move (.const (.bool false)), none⟩])
 (.ret))
 (.skip))))))
 (.ops [⟨some 48, .move (.tmp 8), none⟩,
 ⟨some 49, .bin .add (.tmp 48) (.const (.int .i64 1)), none⟩,
 ⟨some 8, .move (.tmp 49), none⟩]))))))
 (.seq (.draw [(⟨some 93, .move (.tmp 5), none⟩, []),
 (⟨some 95, .loadN 6 (.tmp 6), none⟩, []),
 (⟨some 94, .call (F 102) [.tmp 93], none⟩, [⟨some 95, .loadN 6 (.tmp 6), none⟩]),
 (⟨some 96, .call (F 114) [.tmp 95], none⟩, []),
 (⟨some 97, .bin .eql (.tmp 94) (.tmp 96), none⟩, []),
 (⟨some 98, .move (.tmp 97), none⟩, []),
 (⟨some 99, .call (F 130) [], some (98, true)⟩, []),
 (⟨some 100, .pick (.tmp 98) (.tmp 99) (.const (.bool false)), none⟩, []),
 (⟨some 4, .move (.tmp 100), none⟩, [])])
 (.ret)))))))⟩
/-- hurdle/hurdlelaw23.MembersRise -/
def c_hurdlelaw23_MembersRise (F : Nat → FuncId) (Ty : Nat → TypeId) : IFunc := ⟨146, [.tmp 4],
 .seq (.ops [⟨some 2, .box (.tmp 0), none⟩,
 ⟨some 4, .move (.const (.bool false)), none⟩])
 (.seq (.seq (.ops [⟨some 14, .loadN 2 (.tmp 2), none⟩,
 ⟨some 15, .move (.tmp 1), none⟩,
 ⟨some 16, .call (F 129) [.tmp 14, .tmp 15], none⟩,
 ⟨some 17, .bin .eql (.tmp 16) (.const (.int .i64 0)), none⟩])
 (.cond (.tmp 17)
 (.seq (.ops [⟨some 18, .call (F 130) [], none⟩,
 ⟨some 4, .move (.tmp 18), none⟩])
 (.ret))
 (.skip)))
 (.seq (.ops [⟨some 19, .fieldAddr 0 (.tmp 2), none⟩,
 ⟨some 20, .load1 (.tmp 19), none⟩,
 ⟨some 21, .fieldAddr 1 (.tmp 2), none⟩,
 ⟨some 22, .load1 (.tmp 21), none⟩,
 ⟨some 23, .call (F 97) [.tmp 20, .tmp 22], none⟩,
 ⟨some 5, .move (.tmp 23), none⟩])
 (.seq (.seq (.ops [⟨some 24, .move (.tmp 5), none⟩,
 ⟨some 25, .eqNil 0 false (.tmp 24), none⟩])
 (.cond (.tmp 25)
 (.seq (.ops [⟨some 26, .call (F 130) [], none⟩,
 ⟨some 4, .move (.tmp 26), none⟩])
 (.ret))
 (.skip)))
 (.seq (.seq (.ops [⟨some 6, .move (.const (.int .i64 0)), none⟩])
 (.block 0 (.loop (.seq (.seq (.ops [⟨some 27, .move (.tmp 6), none⟩,
 ⟨some 28, .move (.tmp 1), none⟩,
 ⟨some 29, .lenSl (.tmp 28), none⟩,
 ⟨some 30, .bin .lss (.tmp 27) (.tmp 29), none⟩])
 (.cond (.tmp 30)
 (.skip)
 (.exit 0)))
 (.seq (.block 1 (.seq (.draw [(⟨some 33, .move (.tmp 5), none⟩, []),
 (⟨some 35, .move (.tmp 1), none⟩, []),
 (⟨some 36, .move (.tmp 6), none⟩, []),
 (⟨some 37, .idxSl 4 (.tmp 35) (.tmp 36), none⟩, []),
 (⟨some 38, .fieldAddr 1 (.tmp 37), none⟩, []),
 (⟨some 39, .load1 (.tmp 38), none⟩, []),
 (⟨some 40, .move (.tmp 1), none⟩, []),
 (⟨some 41, .move (.tmp 6), none⟩, []),
 (⟨some 42, .idxSl 4 (.tmp 40) (.tmp 41), none⟩, []),
 (⟨some 43, .fieldAddr 2 (.tmp 42), none⟩, []),
 (⟨some 44, .load1 (.tmp 43), none⟩, []),
 (⟨some 34, .call (F 98) [.tmp 33], none⟩, [⟨some 39, .load1 (.tmp 38), none⟩, ⟨some 44, .load1 (.tmp 43), none⟩]),
 (⟨some 7, .move (.tmp 34), none⟩, []),
 (⟨some 8, .move (.tmp 39), none⟩, []),
 (⟨some 9, .move (.tmp 44), none⟩, [])])
 (.seq (.seq (.ops [⟨some 45, .move (.tmp 1), none⟩,
 ⟨some 46, .move (.tmp 6), none⟩,
 ⟨some 47, .idxSl 4 (.tmp 45) (.tmp 46), none⟩,
 ⟨some 48, .fieldAddr 3 (.tmp 47), none⟩,
 ⟨some 49, .load1 (.tmp 48), none⟩,
 ⟨some 50, .move (.tmp 49), none⟩,
 ⟨some 51, .move (.tmp 1), some (50, true)⟩,
 ⟨some 52, .move (.tmp 6), some (50, true)⟩,
 ⟨some 53, .idxSl 4 (.tmp 51) (.tmp 52), some (50, true)⟩,
 ⟨some 54, .fieldAddr 0 (.tmp 53), some (50, true)⟩,
 ⟨some 55, .load1 (.tmp 54), some (50, true)⟩,
 ⟨some 56, .bin .eql (.tmp 55) (.const (.int .i64 0)), some (50, true)⟩,
 ⟨some 57, .pick (.tmp 50) (.tmp 56) (.const (.bool false)), none⟩])
 (.cond (.tmp 57)
 (.ops [⟨some 58, .move (.tmp 7), none⟩,
 ⟨some 9, .move (.tmp 58), none⟩])
 (.seq (.ops [⟨some 59, .move (.tmp 1), none⟩,
 ⟨some 60, .move (.tmp 6), none⟩,
 ⟨some 61, .idxSl 4 (.tmp 59) (.tmp 60), none⟩,
 ⟨some 62, .fieldAddr 3 (.tmp 61), none⟩,
 ⟨some 63, .load1 (.tmp 62), none⟩])
 (.cond (.tmp 63)
 (.ops [⟨some 64, .move (.tmp 7), none⟩,
 ⟨some 8, .move (.tmp 64), none⟩])
 (.skip)))))
 (.seq (.ops [⟨some 10, .move (.const (.bool false)), none⟩])
 (.seq (.seq (.ops [⟨some 65, .move (.tmp 1), none⟩,
 ⟨some 66, .move (.tmp 6), none⟩,
 ⟨some 67, .idxSl 4 (.tmp 65) (.tmp 66), none⟩,
 ⟨some 68, .fieldAddr 0 (.tmp 67), none⟩,
 ⟨some 69, .load1 (.tmp 68), none⟩])
 (.block 2 (.seq (.ops [⟨some 71, .bin .eql (.tmp 69) (.const (.int .i64 0)), none⟩,
 ⟨some 70, .move (.tmp 71), none⟩])
 (.cond (.tmp 70)
 (.ops [⟨some 72, .move (.tmp 5), none⟩,
 ⟨some 73, .move (.tmp 8), none⟩,
 ⟨some 74, .move (.tmp 9), none⟩,
 ⟨some 75, .call (F 103) [.tmp 72, .tmp 73, .tmp 74], none⟩,
 ⟨some 76, .bin .eql (.tmp 75) (.const (.int .i64 0)), none⟩,
 ⟨some 10, .move (.tmp 76), none⟩])
 (.seq (.ops [⟨some 78, .bin .eql (.tmp 69) (.const (.int .i64 1)), none⟩,
 ⟨some 77, .move (.tmp 78), none⟩])
 (.cond (.tmp 77)
 (.seq (.ops [⟨some 80, .move (.tmp 5), none⟩,
 ⟨some 81, .move (.tmp 8), none⟩,
 ⟨some 82, .call (F 104) [.tmp 80, .tmp 81], none⟩,
 ⟨some 79, .move (.tmp 82), none⟩,
 ⟨some 83, .extract (.tmp 79) 0, none⟩,
 ⟨some 84, .extract (.tmp 79) 1, none⟩,
 ⟨some 11, .move (.tmp 83), none⟩,
 ⟨some 12, .move (.tmp 84), none⟩])
 (.ops [⟨some 85, .move (.tmp 12), none⟩,
 ⟨some 86, .bin .eql (.tmp 85) (.const (.int .i64 0)), none⟩,
 ⟨some 10, .move (.tmp 86), none⟩]))
 (.seq (.ops [⟨some 88, .bin .eql (.tmp 69) (.const (.int .i64 2)), none⟩,
 ⟨some 87, .move (.tmp 88), none⟩])
 (.cond (.tmp 87)
 (.ops [⟨some 89, .move (.tmp 5), none⟩,
 ⟨some 90, .move (.tmp 8), none⟩,
 ⟨some 91, .call (F 105) [.tmp 89, .tmp 90], none⟩,
 ⟨some 92, .bin .eql (.tmp 91) (.const (.int .i64 0)), none⟩,
 ⟨some 10, .move (.tmp 92), none⟩])
 (.seq (.ops [⟨some 94, .bin .eql (.tmp 69) (.const (.int .i64 3)), none⟩,
 ⟨some 93, .move (.tmp 94), none⟩])
 (.cond (.tmp 93)
 (.ops [⟨some 95, .move (.tmp 5), none⟩,
 ⟨some 96, .move (.tmp 1), none⟩,
 ⟨some 97, .move (.tmp 6), none⟩,
 ⟨some 98, .idxSl 4 (.tmp 96) (.tmp 97), none⟩,
 ⟨some 99, .fieldAddr 1 (.tmp 98), none⟩,
 ⟨some 100, .load1 (.tmp 99), none⟩,
 ⟨some 101, .call (F 106) [.tmp 95, .tmp 100], none⟩])
 (.skip)))))))))))
 (.seq (.ops [⟨some 102, .move (.tmp 5), none⟩,
 ⟨some 103, .call (F 100) [.tmp 102], none⟩,
 ⟨some 13, .move (.tmp 103), none⟩])
 (.seq (.ops [⟨some 104, .move (.tmp 5), none⟩,
 ⟨some 105, .call (F 98) [.tmp 104], none⟩,
 ⟨some 106, .move (.tmp 7), none⟩,
 ⟨some 107, .bin .neq (.tmp 105) (.tmp 106), none⟩,
 ⟨some 108, .move (.tmp 107), none⟩,
 ⟨some 109, .move (.tmp 10), some (108, true)⟩,
 ⟨some 110, .un .not (.tmp 109), some (108, true)⟩,
 ⟨some 111, .move (.tmp 110), some (108, true)⟩,
 ⟨some 112, .move (.tmp 5), some (111, false)⟩,
 ⟨some 113, .call (F 98) [.tmp 112], some (111, false)⟩,
 ⟨some 114, .move (.tmp 7), some (111, false)⟩,
 ⟨some 115, .bin .add (.tmp 114) (.const (.int .i64 1)), some (111, false)⟩,
 ⟨some 116, .bin .neq (.tmp 113) (.tmp 115), some (111, false)⟩,
 ⟨some 117, .pick (.tmp 111) (.const (.bool true)) (.tmp 116), some (108, true)⟩,
 ⟨some 118, .pick (.tmp 108) (.tmp 117) (.const (.bool false)), none⟩,
 ⟨some 119, .move (.tmp 118), none⟩,
 ⟨some 120, .move (.tmp 10), some (119, false)⟩,
 ⟨some 121, .move (.tmp 120), some (119, false)⟩,
 ⟨some 122, .move (.tmp 5), some (121, true)⟩,
 ⟨some 123, .call (F 98) [.tmp 122], some (121, true)⟩,
 ⟨some 124, .move (.tmp 7), some (121, true)⟩,
 ⟨some 125, .bin .eql (.tmp 123) (.tmp 124), some (121, true)⟩,
 ⟨some 126, .pick (.tmp 121) (.tmp 125) (.const (.bool false)), some (119, false)⟩,
 ⟨some 127, .pick (.tmp 119) (.const (.bool true)) (.tmp 126), none⟩,
 ⟨some 128, .move (.tmp 127), none⟩,
 ⟨some 129, .move (.tmp 13), some (128, false)⟩,
 ⟨some 130, .lenSl (.tmp 129), some (128, false)⟩,
 ⟨some 131, .fieldAddr 0 (.tmp 2), some (128, false)⟩,
 ⟨some 132, .load1 (.tmp 131), some (128, false)⟩,
 ⟨some 133, .lenSl (.tmp 132), some (128, false)⟩,
 ⟨some 134, .bin .neq (.tmp 130) (.tmp 133), some (128, false)⟩,
 ⟨some 135, .pick (.tmp 128) (.const (.bool true)) (.tmp 134), none⟩,
 ⟨some 136, .move (.tmp 135), none⟩,
 ⟨some 137, .move (.tmp 13), some (136, false)⟩,
 ⟨some 138, .append 1 8 (.const (.slice none 0 0)) (.tmp 137), some (136, false)⟩,
 ⟨some 139, .move (.tmp 5), some (136, false)⟩,
 ⟨some 140, .call (F 101) [.tmp 139], some (136, false)⟩,
 ⟨some 141, .append 1 8 (.tmp 138) (.tmp 140), some (136, false)⟩,
 ⟨some 142, .call (F 115) [.tmp 141], some (136, false)⟩,
 ⟨some 143, .un .not (.tmp 142), some (136, false)⟩,
 ⟨some 144, .pick (.tmp 136) (.const (.bool true)) (.tmp 143), none⟩])
 (.cond (.tmp 144)
 (.seq (.ops [⟨some 4, .move (.const (.bool false)), none⟩])
 (.ret))
 (.skip)))))))))
 (.ops [⟨some 31, .move (.tmp 6), none⟩,
 ⟨some 32, .bin .add (.tmp 31) (.const (.int .i64 1)), none⟩,
 ⟨some 6, .move (.tmp 32), none⟩]))))))
 (.seq (.ops [⟨some 145, .call (F 130) [], none⟩,
 ⟨some 4, .move (.tmp 145), none⟩])
 (.ret))))))⟩
/-- hurdle/hurdlelaw23.MembersBack -/
def c_hurdlelaw23_MembersBack (F : Nat → FuncId) (Ty : Nat → TypeId) : IFunc := ⟨144, [.tmp 6],
 .seq (.ops [⟨some 3, .box (.tmp 0), none⟩,
 ⟨some 6, .move (.const (.bool false)), none⟩])
 (.seq (.seq (.ops [⟨some 15, .loadN 2 (.tmp 3), none⟩,
 ⟨some 16, .move (.tmp 1), none⟩,
 ⟨some 17, .call (F 129) [.tmp 15, .tmp 16], none⟩,
 ⟨some 18, .bin .eql (.tmp 17) (.const (.int .i64 0)), none⟩,
 ⟨some 19, .move (.tmp 18), none⟩,
 ⟨some 20, .move (.tmp 2), some (19, false)⟩,
 ⟨some 21, .strLen (.tmp 20), some (19, false)⟩,
 ⟨some 22, .bin .gtr (.tmp 21) (.const (.int .i64 5000)), some (19, false)⟩,
 ⟨some 23, .pick (.tmp 19) (.const (.bool true)) (.tmp 22), none⟩])
 (.cond (.tmp 23)
 (.seq (.ops [⟨some 24, .call (F 130) [], none⟩,
 ⟨some 6, .move (.tmp 24), none⟩])
 (.ret))
 (.skip)))
 (.seq (.ops [⟨some 26, .move (.tmp 2), none⟩,
 ⟨some 27, .call (F 107) [.tmp 26], none⟩,
 ⟨some 25, .move (.tmp 27), none⟩,
 ⟨some 28, .extract (.tmp 25) 0, none⟩,
 ⟨some 29, .extract (.tmp 25) 1, none⟩,
 ⟨some 7, .move (.tmp 28), none⟩,
 ⟨some 8, .move (.tmp 29), none⟩])
 (.seq (.ops [⟨some 31, .move (.tmp 2), none⟩,
 ⟨some 32, .call (F 116) [.tmp 31], none⟩,
 ⟨some 30, .move (.tmp 32), none⟩,
 ⟨some 33, .extract (.tmp 30) 0, none⟩,
 ⟨some 34, .extract (.tmp 30) 1, none⟩,
 ⟨some 9, .alloc [.slice none 0 0, .slice none 0 0, .int .i64 0, .int .i64 0, .bool false, .int .i64 0], none⟩,
 ⟨none, .store 6 (.tmp 9) (.tmp 33), none⟩,
 ⟨some 10, .move (.tmp 34), none⟩])
 (.seq (.seq (.ops [⟨some 35, .move (.tmp 8), none⟩,
 ⟨some 36, .move (.tmp 10), none⟩,
 ⟨some 37, .bin .neq (.tmp 35) (.tmp 36), none⟩,
 ⟨some 38, .move (.tmp 37), none⟩,
 ⟨some 39, .move (.tmp 7), some (38, false)⟩,
 ⟨some 40, .eqNil 0 false (.tmp 39), some (38, false)⟩,
 ⟨some 41, .move (.tmp 10), some (38, false)⟩,
 ⟨some 42, .bin .neq (.tmp 41) (.const (.int .i64 0)), some (38, false)⟩,
 ⟨some 43, .eqv true [] (.tmp 40) (.tmp 42), some (38, false)⟩,
 ⟨some 44, .pick (.tmp 38) (.const (.bool true)) (.tmp 43), none⟩,
 ⟨some 45, .move (.tmp 44), none⟩,
 ⟨some 46, .move (.tmp 10), some (45, false)⟩,
 ⟨some 47, .bin .eql (.tmp 46) (.const (.int .i64 0)), some (45, false)⟩,
 ⟨some 48, .move (.tmp 47), some (45, false)⟩,
 ⟨some 49, .move (.tmp 7), some (48, true)⟩,
 ⟨some 50, .call (F 102) [.tmp 49], some (48, true)⟩,
 ⟨some 51, .move (.tmp 2), some (48, true)⟩,
 ⟨some 52, .bin .neq (.tmp 50) (.tmp 51), some (48, true)⟩,
 ⟨some 53, .move (.tmp 52), some (48, true)⟩,
 ⟨some 54, .loadN 6 (.tmp 9), some (53, false)⟩,
 ⟨some 55, .call (F 114) [.tmp 54], some (53, false)⟩,
 ⟨some 56, .move (.tmp 2), some (53, false)⟩,
 ⟨some 57, .bin .neq (.tmp 55) (.tmp 56), some (53, false)⟩,
 ⟨some 58, .pick (.tmp 53) (.const (.bool true)) (.tmp 57), some (48, true)⟩,
 ⟨some 59, .pick (.tmp 48) (.tmp 58) (.const (.bool false)), some (45, false)⟩,
 ⟨some 60, .pick (.tmp 45) (.const (.bool true)) (.tmp 59), none⟩])
 (.cond (.tmp 60)
 (.seq (.ops [⟨some 6, .move (.const (.bool false)), none⟩])
 (.ret))
 (.skip)))
 (.seq (.ops [⟨some 61, .fieldAddr 0 (.tmp 3), none⟩,
 ⟨some 62, .load1 (.tmp 61), none⟩,
 ⟨some 63, .fieldAddr 1 (.tmp 3), none⟩,
 ⟨some 64, .load1 (.tmp 63), none⟩,
 ⟨some 65, .call (F 97) [.tmp 62, .tmp 64], none⟩,
 ⟨some 11, .move (.tmp 65), none⟩])
 (.seq (.seq (.ops [⟨some 66, .move (.tmp 11), none⟩,
 ⟨some 67, .eqNil 0 false (.tmp 66), none⟩])
 (.cond (.tmp 67)
 (.seq (.ops [⟨some 68, .call (F 130) [], none⟩,
 ⟨some 6, .move (.tmp 68), none⟩])
 (.ret))
 (.skip)))
 (.seq (.seq (.ops [⟨some 12, .move (.const (.int .i64 0)), none⟩])
 (.block 0 (.loop (.seq (.seq (.ops [⟨some 69, .move (.tmp 12), none⟩,
 ⟨some 70, .move (.tmp 1), none⟩,
 ⟨some 71, .lenSl (.tmp 70), none⟩,
 ⟨some 72, .bin .lss (.tmp 69) (.tmp 71), none⟩])
 (.cond (.tmp 72)
 (.skip)
 (.exit 0)))
 (.seq (.block 1 (.seq (.ops [⟨some 75, .move (.tmp 1), none⟩,
 ⟨some 76, .move (.tmp 12), none⟩,
 ⟨some 77, .idxSl 4 (.tmp 75) (.tmp 76), none⟩,
 ⟨some 78, .fieldAddr 0 (.tmp 77), none⟩,
 ⟨some 79, .load1 (.tmp 78), none⟩])
 (.block 2 (.seq (.ops [⟨some 81, .bin .eql (.tmp 79) (.const (.int .i64 0)), none⟩,
 ⟨some 80, .move (.tmp 81), none⟩])
 (.cond (.tmp 80)
 (.draw [(⟨some 82, .move (.tmp 11), none⟩, []),
 (⟨some 83, .move (.tmp 1), none⟩, []),
 (⟨some 84, .move (.tmp 12), none⟩, []),
 (⟨some 85, .idxSl 4 (.tmp 83) (.tmp 84), none⟩, []),
 (⟨some 86, .fieldAddr 1 (.tmp 85), none⟩, []),
 (⟨some 87, .load1 (.tmp 86), none⟩, []),
 (⟨some 88, .move (.tmp 11), none⟩, []),
 (⟨some 89, .call (F 98) [.tmp 88], none⟩, [⟨some 87, .load1 (.tmp 86), none⟩]),
 (⟨some 90, .call (F 103) [.tmp 82, .tmp 87, .tmp 89], none⟩, [])])
 (.seq (.ops [⟨some 92, .bin .eql (.tmp 79) (.const (.int .i64 1)), none⟩,
 ⟨some 91, .move (.tmp 92), none⟩])
 (.cond (.tmp 91)
 (.ops [⟨some 93, .move (.tmp 11), none⟩,
 ⟨some 94, .move (.tmp 11), none⟩,
 ⟨some 95, .call (F 98) [.tmp 94], none⟩,
 ⟨some 96, .call (F 104) [.tmp 93, .tmp 95], none⟩])
 (.seq (.ops [⟨some 98, .bin .eql (.tmp 79) (.const (.int .i64 2)), none⟩,
 ⟨some 97, .move (.tmp 98), none⟩])
 (.cond (.tmp 97)
 (.ops [⟨some 99, .move (.tmp 11), none⟩,
 ⟨some 100, .move (.tmp 11), none⟩,
 ⟨some 101, .call (F 98) [.tmp 100], none⟩,
 ⟨some 102, .call (F 105) [.tmp 99, .tmp 101], none⟩])
 (.seq (.ops [⟨some 104, .bin .eql (.tmp 79) (.const (.int .i64 3)), none⟩,
 ⟨some 103, .move (.tmp 104), none⟩])
 (.cond (.tmp 103)
 (.ops [⟨some 105, .move (.tmp 11), none⟩,
 ⟨some 106, .move (.tmp 1), none⟩,
 ⟨some 107, .move (.tmp 12), none⟩,
 ⟨some 108, .idxSl 4 (.tmp 106) (.tmp 107), none⟩,
 ⟨some 109, .fieldAddr 1 (.tmp 108), none⟩,
 ⟨some 110, .load1 (.tmp 109), none⟩,
 ⟨some 111, .call (F 106) [.tmp 105, .tmp 110], none⟩])
 (.skip))))))))))))
 (.ops [⟨some 73, .move (.tmp 12), none⟩,
 ⟨some 74, .bin .add (.tmp 73) (.const (.int .i64 1)), none⟩,
 ⟨some 12, .move (.tmp 74), none⟩]))))))
 (.seq (.ops [⟨some 113, .move (.tmp 11), none⟩,
 ⟨some 114, .call (F 102) [.tmp 113], none⟩,
 ⟨some 115, .call (F 107) [.tmp 114], none⟩,
 ⟨some 112, .move (.tmp 115), none⟩,
 ⟨some 116, .extract (.tmp 112) 0, none⟩,
 ⟨some 117, .extract (.tmp 112) 1, none⟩,
 ⟨some 13, .move (.tmp 116), none⟩,
 ⟨some 14, .move (.tmp 117), none⟩])
 (.seq (.ops [⟨some 118, .move (.tmp 14), none⟩,
 ⟨some 119, .bin .eql (.tmp 118) (.const (.int .i64 0)), none⟩,
 ⟨some 120, .move (.tmp 119), none⟩,
 ⟨some 121, .move (.tmp 13), some (120, true)⟩,
 ⟨some 122, .call (F 102) [.tmp 121], some (120, true)⟩,
 ⟨some 123, .move (.tmp 11), some (120, true)⟩,
 ⟨some 124, .call (F 102) [.tmp 123], some (120, true)⟩,
 ⟨some 125, .bin .eql (.tmp 122) (.tmp 124), some (120, true)⟩,
 ⟨some 126, .pick (.tmp 120) (.tmp 125) (.const (.bool false)), none⟩,
 ⟨some 127, .move (.tmp 126), none⟩,
 ⟨some 128, .move (.tmp 13), some (127, true)⟩,
 ⟨some 129, .call (F 99) [.tmp 128], some (127, true)⟩,
 ⟨some 130, .move (.tmp 11), some (127, true)⟩,
 ⟨some 131, .call (F 99) [.tmp 130], some (127, true)⟩,
 ⟨some 132, .bin .eql (.tmp 129) (.tmp 131), some (127, true)⟩,
 ⟨some 133, .pick (.tmp 127) (.tmp 132) (.const (.bool false)), none⟩,
 ⟨some 134, .move (.tmp 133), none⟩,
 ⟨some 135, .move (.tmp 13), some (134, true)⟩,
 ⟨some 136, .call (F 100) [.tmp 135], some (134, true)⟩,
 ⟨some 137, .move (.tmp 11), some (134, true)⟩,
 ⟨some 138, .call (F 100) [.tmp 137], some (134, true)⟩,
 ⟨some 139, .call (F 69) [.tmp 136, .tmp 138], some (134, true)⟩,
 ⟨some 140, .pick (.tmp 134) (.tmp 139) (.const (.bool false)), none⟩,
 ⟨some 141, .move (.tmp 140), none⟩,
 ⟨some 142, .call (F 130) [], some (141, true)⟩,
 ⟨some 143, .pick (.tmp 141) (.tmp 142) (.const (.bool false)), none⟩,
 ⟨some 6, .move (.tmp 143), none⟩])
 (.ret))))))))))⟩
/-- hurdle/hurdlelaw23.MembersOne -/
def c_hurdlelaw23_MembersOne (F : Nat → FuncId) (Ty : Nat → TypeId) : IFunc := ⟨99, [.tmp 6],
 .seq (.ops [⟨some 3, .box (.tmp 0), none⟩,
 ⟨some 6, .move (.const (.bool false)), none⟩])
 (.seq (.seq (.ops [⟨some 13, .loadN 2 (.tmp 3), none⟩,
 ⟨some 14, .call (F 129) [.tmp 13, .const (.slice none 0 0)], none⟩,
 ⟨some 15, .bin .eql (.tmp 14) (.const (.int .i64 0)), none⟩])
 (.cond (.tmp 15)
 (.seq (.ops [⟨some 16, .call (F 130) [], none⟩,
 ⟨some 6, .move (.tmp 16), none⟩])
 (.ret))
 (.skip)))
 (.seq (.ops [⟨some 17, .fieldAddr 0 (.tmp 3), none⟩,
 ⟨some 18, .load1 (.tmp 17), none⟩,
 ⟨some 19, .fieldAddr 1 (.tmp 3), none⟩,
 ⟨some 20, .load1 (.tmp 19), none⟩,
 ⟨some 21, .call (F 97) [.tmp 18, .tmp 20], none⟩,
 ⟨some 7, .move (.tmp 21), none⟩])
 (.seq (.seq (.ops [⟨some 22, .move (.tmp 7), none⟩,
 ⟨some 23, .eqNil 0 false (.tmp 22), none⟩,
 ⟨some 24, .move (.tmp 23), none⟩,
 ⟨some 25, .move (.tmp 7), some (24, false)⟩,
 ⟨some 26, .move (.tmp 1), some (24, false)⟩,
 ⟨some 27, .call (F 103) [.tmp 25, .tmp 26, .const (.int .i64 1)], some (24, false)⟩,
 ⟨some 28, .bin .neq (.tmp 27) (.const (.int .i64 0)), some (24, false)⟩,
 ⟨some 29, .pick (.tmp 24) (.const (.bool true)) (.tmp 28), none⟩])
 (.cond (.tmp 29)
 (.seq (.ops [⟨some 30, .call (F 130) [], none⟩,
 ⟨some 6, .move (.tmp 30), none⟩])
 (.ret))
 (.skip)))
 (.seq (.ops [⟨some 31, .fieldAddr 0 (.tmp 3), none⟩,
 ⟨some 32, .load1 (.tmp 31), none⟩,
 ⟨some 33, .move (.tmp 1), none⟩,
 ⟨some 34, .call (F 117) [.tmp 32, .tmp 33], none⟩,
 ⟨some 8, .move (.tmp 34), none⟩])
 (.seq (.ops [⟨some 35, .move (.tmp 7), none⟩,
 ⟨some 36, .move (.tmp 2), none⟩,
 ⟨some 37, .call (F 103) [.tmp 35, .tmp 36, .const (.int .i64 2)], none⟩,
 ⟨some 9, .move (.tmp 37), none⟩])
 (.seq (.ops [⟨some 39, .move (.tmp 7), none⟩,
 ⟨some 40, .call (F 104) [.tmp 39, .const (.int .i64 2)], none⟩,
 ⟨some 38, .move (.tmp 40), none⟩,
 ⟨some 41, .extract (.tmp 38) 0, none⟩,
 ⟨some 42, .extract (.tmp 38) 1, none⟩,
 ⟨some 10, .move (.tmp 41), none⟩,
 ⟨some 11, .move (.tmp 42), none⟩])
 (.seq (.seq (.ops [⟨some 43, .move (.tmp 8), none⟩,
 ⟨some 44, .bin .lss (.tmp 43) (.const (.int .i64 0)), none⟩,
 ⟨some 45, .move (.tmp 44), none⟩,
 ⟨some 46, .move (.tmp 9), some (45, false)⟩,
 ⟨some 47, .bin .eql (.tmp 46) (.const (.int .i64 0)), some (45, false)⟩,
 ⟨some 48, .pick (.tmp 45) (.const (.bool true)) (.tmp 47), none⟩,
 ⟨some 49, .move (.tmp 48), none⟩,
 ⟨some 50, .move (.tmp 7), some (49, false)⟩,
 ⟨some 51, .call (F 99) [.tmp 50], some (49, false)⟩,
 ⟨some 52, .move (.tmp 8), some (49, false)⟩,
 ⟨some 53, .bin .neq (.tmp 51) (.tmp 52), some (49, false)⟩,
 ⟨some 54, .pick (.tmp 49) (.const (.bool true)) (.tmp 53), none⟩,
 ⟨some 55, .move (.tmp 54), none⟩,
 ⟨some 56, .move (.tmp 11), some (55, false)⟩,
 ⟨some 57, .bin .eql (.tmp 56) (.const (.int .i64 0)), some (55, false)⟩,
 ⟨some 58, .fieldAddr 1 (.tmp 3), some (55, false)⟩,
 ⟨some 59, .load1 (.tmp 58), some (55, false)⟩,
 ⟨some 60, .lenSl (.tmp 59), some (55, false)⟩,
 ⟨some 61, .bin .gtr (.tmp 60) (.const (.int .i64 0)), some (55, false)⟩,
 ⟨some 62, .eqv true [] (.tmp 57) (.tmp 61), some (55, false)⟩,
 ⟨some 63, .pick (.tmp 55) (.const (.bool true)) (.tmp 62), none⟩])
 (.cond (.tmp 63)
 (.seq (.ops [⟨some 6, .move (.const (.bool false)), none⟩])
 (.ret))
 (.skip)))
 (.seq (.seq (.ops [⟨some 64, .move (.tmp 11), none⟩,
 ⟨some 65, .bin .neq (.tmp 64) (.const (.int .i64 0)), none⟩])
 (.cond (.tmp 65)
 (.seq (.draw [(⟨some 66, .move (.tmp 7), none⟩, []),
 (⟨some 68, .fieldAddr 0 (.tmp 3), none⟩, []),
 (⟨some 69, .load1 (.tmp 68), none⟩, []),
 (⟨some 67, .call (F 100) [.tmp 66], none⟩, [⟨some 69, .load1 (.tmp 68), none⟩]),
 (⟨some 70, .call (F 69) [.tmp 67, .tmp 69], none⟩, []),
 (⟨some 71, .move (.tmp 70), none⟩, []),
 (⟨some 72, .call (F 130) [], some (71, true)⟩, []),
 (⟨some 73, .pick (.tmp 71) (.tmp 72) (.const (.bool false)), none⟩, []),
 (⟨some 6, .move (.tmp 73), none⟩, [])])
 (.ret))
 (.skip)))
 (.seq (.ops [⟨some 74, .fieldAddr 0 (.tmp 3), none⟩,
 ⟨some 75, .load1 (.tmp 74), none⟩,
 ⟨some 76, .append 1 8 (.const (.slice none 0 0)) (.tmp 75), none⟩,
 ⟨some 12, .move (.tmp 76), none⟩])
 (.seq (.ops [⟨some 77, .move (.tmp 12), none⟩,
 ⟨some 78, .move (.tmp 8), none⟩,
 ⟨some 79, .fieldAddr 1 (.tmp 3), none⟩,
 ⟨some 80, .load1 (.tmp 79), none⟩,
 ⟨some 81, .idxSl 1 (.tmp 80) (.const (.int .i64 0)), none⟩,
 ⟨some 82, .load1 (.tmp 81), none⟩,
 ⟨some 83, .idxSl 1 (.tmp 77) (.tmp 78), none⟩,
 ⟨none, .store 1 (.tmp 83) (.tmp 82), none⟩])
 (.seq (.ops [⟨some 84, .move (.tmp 10), none⟩,
 ⟨some 85, .fieldAddr 1 (.tmp 3), none⟩,
 ⟨some 86, .load1 (.tmp 85), none⟩,
 ⟨some 87, .idxSl 1 (.tmp 86) (.const (.int .i64 0)), none⟩,
 ⟨some 88, .load1 (.tmp 87), none⟩,
 ⟨some 89, .bin .eql (.tmp 84) (.tmp 88), none⟩,
 ⟨some 90, .move (.tmp 89), none⟩,
 ⟨some 91, .move (.tmp 7), some (90, true)⟩,
 ⟨some 92, .call (F 100) [.tmp 91], some (90, true)⟩,
 ⟨some 93, .move (.tmp 12), some (90, true)⟩,
 ⟨some 94, .call (F 69) [.tmp 92, .tmp 93], some (90, true)⟩,
 ⟨some 95, .pick (.tmp 90) (.tmp 94) (.const (.bool false)), none⟩,
 ⟨some 96, .move (.tmp 95), none⟩,
 ⟨some 97, .call (F 130) [], some (96, true)⟩,
 ⟨some 98, .pick (.tmp 96) (.tmp 97) (.const (.bool false)), none⟩,
 ⟨some 6, .move (.tmp 98), none⟩])
 (.ret))))))))))))⟩
/-- hurdle/hurdlelaw23.MembersNone -/
def c_hurdlelaw23_MembersNone (F : Nat → FuncId) (Ty : Nat → TypeId) : IFunc := ⟨72, [.tmp 2],
 .seq (.ops [⟨some 1, .box (.tmp 0), none⟩,
 ⟨some 2, .move (.const (.bool false)), none⟩])
 (.seq (.ops [⟨some 3, .move (.const (.pointer none)), none⟩])
 (.seq (.ops [⟨some 7, .move (.tmp 3), none⟩,
 ⟨some 8, .fieldAddr 1 (.tmp 1), none⟩,
 ⟨some 9, .load1 (.tmp 8), none⟩,
 ⟨some 10, .call (F 104) [.tmp 7, .tmp 9], none⟩,
 ⟨some 6, .move (.tmp 10), none⟩,
 ⟨some 11, .extract (.tmp 6) 0, none⟩,
 ⟨some 12, .extract (.tmp 6) 1, none⟩,
 ⟨some 4, .move (.tmp 11), none⟩,
 ⟨some 5, .move (.tmp 12), none⟩])
 (.seq (.ops [⟨some 13, .move (.tmp 3), none⟩,
 ⟨some 14, .fieldAddr 1 (.tmp 1), none⟩,
 ⟨some 15, .load1 (.tmp 14), none⟩,
 ⟨some 16, .fieldAddr 2 (.tmp 1), none⟩,
 ⟨some 17, .load1 (.tmp 16), none⟩,
 ⟨some 18, .call (F 103) [.tmp 13, .tmp 15, .tmp 17], none⟩,
 ⟨some 19, .bin .eql (.tmp 18) (.const (.int .i64 1)), none⟩,
 ⟨some 20, .move (.tmp 19), none⟩,
 ⟨some 21, .move (.tmp 4), some (20, true)⟩,
 ⟨some 22, .bin .eql (.tmp 21) (.const (.int .i64 0)), some (20, true)⟩,
 ⟨some 23, .pick (.tmp 20) (.tmp 22) (.const (.bool false)), none⟩,
 ⟨some 24, .move (.tmp 23), none⟩,
 ⟨some 25, .move (.tmp 5), some (24, true)⟩,
 ⟨some 26, .bin .eql (.tmp 25) (.const (.int .i64 1)), some (24, true)⟩,
 ⟨some 27, .pick (.tmp 24) (.tmp 26) (.const (.bool false)), none⟩,
 ⟨some 28, .move (.tmp 27), none⟩,
 ⟨some 29, .move (.tmp 3), some (28, true)⟩,
 ⟨some 30, .fieldAddr 1 (.tmp 1), some (28, true)⟩,
 ⟨some 31, .load1 (.tmp 30), some (28, true)⟩,
 ⟨some 32, .call (F 105) [.tmp 29, .tmp 31], some (28, true)⟩,
 ⟨some 33, .bin .eql (.tmp 32) (.const (.int .i64 1)), some (28, true)⟩,
 ⟨some 34, .pick (.tmp 28) (.tmp 33) (.const (.bool false)), none⟩,
 ⟨some 35, .move (.tmp 34), none⟩,
 ⟨some 36, .move (.tmp 3), some (35, true)⟩,
 ⟨some 37, .fieldAddr 1 (.tmp 1), some (35, true)⟩,
 ⟨some 38, .load1 (.tmp 37), some (35, true)⟩,
 ⟨some 39, .call (F 106) [.tmp 36, .tmp 38], some (35, true)⟩,
 ⟨some 40, .bin .eql (.tmp 39) (.const (.int .i64 1)), some (35, true)⟩,
 ⟨some 41, .pick (.tmp 35) (.tmp 40) (.const (.bool false)), none⟩,
 ⟨some 42, .move (.tmp 41), none⟩,
 ⟨some 43, .move (.tmp 3), some (42, true)⟩,
 ⟨some 44, .call (F 98) [.tmp 43], some (42, true)⟩,
 ⟨some 45, .bin .eql (.tmp 44) (.const (.int .i64 0)), some (42, true)⟩,
 ⟨some 46, .pick (.tmp 42) (.tmp 45) (.const (.bool false)), none⟩,
 ⟨some 47, .move (.tmp 46), none⟩,
 ⟨some 48, .move (.tmp 3), some (47, true)⟩,
 ⟨some 49, .call (F 100) [.tmp 48], some (47, true)⟩,
 ⟨some 50, .lenSl (.tmp 49), some (47, true)⟩,
 ⟨some 51, .bin .eql (.tmp 50) (.const (.int .i64 0)), some (47, true)⟩,
 ⟨some 52, .pick (.tmp 47) (.tmp 51) (.const (.bool false)), none⟩,
 ⟨some 53, .move (.tmp 52), none⟩,
 ⟨some 54, .move (.tmp 3), some (53, true)⟩,
 ⟨some 55, .call (F 101) [.tmp 54], some (53, true)⟩,
 ⟨some 56, .lenSl (.tmp 55), some (53, true)⟩,
 ⟨some 57, .bin .eql (.tmp 56) (.const (.int .i64 0)), some (53, true)⟩,
 ⟨some 58, .pick (.tmp 53) (.tmp 57) (.const (.bool false)), none⟩,
 ⟨some 59, .move (.tmp 58), none⟩,
 ⟨some 60, .move (.tmp 3), some (59, true)⟩,
 ⟨some 61, .call (F 99) [.tmp 60], some (59, true)⟩,
 ⟨some 62, .bin .eql (.tmp 61) (.const (.int .i64 (-1))), some (59, true)⟩,
 ⟨some 63, .pick (.tmp 59) (.tmp 62) (.const (.bool false)), none⟩,
 ⟨some 64, .move (.tmp 63), none⟩,
 ⟨some 65, .move (.tmp 3), some (64, true)⟩,
 ⟨some 66, .call (F 102) [.tmp 65], some (64, true)⟩,
 ⟨some 67, .bin .eql (.tmp 66) (.const (.string ⟨#[]⟩)), some (64, true)⟩,
 ⟨some 68, .pick (.tmp 64) (.tmp 67) (.const (.bool false)), none⟩,
 ⟨some 69, .move (.tmp 68), none⟩,
 ⟨some 70, .call (F 130) [], some (69, true)⟩,
 ⟨some 71, .pick (.tmp 69) (.tmp 70) (.const (.bool false)), none⟩,
 ⟨some 2, .move (.tmp 71), none⟩])
 (.ret))))⟩
/-- hurdle/hurdlelaw23.Few -/
def c_hurdlelaw23_Few (F : Nat → FuncId) (Ty : Nat → TypeId) : IFunc := ⟨20, [.tmp 4],
 .seq (.ops [⟨some 2, .box (.tmp 0), none⟩,
 ⟨some 4, .move (.const (.int .i64 0)), none⟩])
 (.seq (.seq (.ops [⟨some 5, .fieldAddr 0 (.tmp 2), none⟩,
 ⟨some 6, .load1 (.tmp 5), none⟩,
 ⟨some 7, .lenSl (.tmp 6), none⟩,
 ⟨some 8, .bin .gtr (.tmp 7) (.const (.int .i64 20)), none⟩,
 ⟨some 9, .move (.tmp 8), none⟩,
 ⟨some 10, .fieldAddr 1 (.tmp 2), some (9, false)⟩,
 ⟨some 11, .load1 (.tmp 10), some (9, false)⟩,
 ⟨some 12, .lenSl (.tmp 11), some (9, false)⟩,
 ⟨some 13, .bin .gtr (.tmp 12) (.const (.int .i64 80)), some (9, false)⟩,
 ⟨some 14, .pick (.tmp 9) (.const (.bool true)) (.tmp 13), none⟩,
 ⟨some 15, .move (.tmp 14), none⟩,
 ⟨some 16, .move (.tmp 1), some (15, false)⟩,
 ⟨some 17, .lenSl (.tmp 16), some (15, false)⟩,
 ⟨some 18, .bin .gtr (.tmp 17) (.const (.int .i64 60)), some (15, false)⟩,
 ⟨some 19, .pick (.tmp 15) (.const (.bool true)) (.tmp 18), none⟩])
 (.cond (.tmp 19)
 (.seq (.ops [⟨some 4, .move (.const (.int .i64 0)), none⟩])
 (.ret))
 (.skip)))
 (.seq (.ops [⟨some 4, .move (.const (.int .i64 1)), none⟩])
 (.ret)))⟩
/-- hurdle/hurdlelaw23.awake -/
def c_hurdlelaw23_awake (F : Nat → FuncId) (Ty : Nat → TypeId) : IFunc := ⟨104, [.tmp 0],
 .seq (.ops [⟨some 0, .move (.const (.bool false)), none⟩])
 (.seq (.ops [⟨some 11, .buildSlice 3 [.int .i64 0, .int .i64 0, .int .i64 0] [((0, 1), .const (.int .i64 1)), ((1, 1), .const (.int .i64 2)), ((2, 1), .const (.int .i64 3))], none⟩,
 ⟨some 12, .buildSlice 1 [.int .i64 0] [((0, 1), .const (.int .i64 9))], none⟩,
 ⟨some 13, .call (F 97) [.tmp 11, .tmp 12], none⟩,
 ⟨some 1, .move (.tmp 13), none⟩])
 (.seq (.seq (.ops [⟨some 14, .move (.tmp 1), none⟩,
 ⟨some 15, .eqNil 0 false (.tmp 14), none⟩,
 ⟨some 16, .move (.tmp 15), none⟩,
 ⟨some 17, .buildSlice 1 [.int .i64 0] [((0, 1), .const (.int .i64 1))], some (16, false)⟩,
 ⟨some 18, .call (F 97) [.tmp 17, .const (.slice none 0 0)], some (16, false)⟩,
 ⟨some 19, .eqNil 0 true (.tmp 18), some (16, false)⟩,
 ⟨some 20, .pick (.tmp 16) (.const (.bool true)) (.tmp 19), none⟩])
 (.cond (.tmp 20)
 (.seq (.ops [⟨some 0, .move (.const (.bool false)), none⟩])
 (.ret))
 (.skip)))
 (.seq (.ops [⟨some 21, .move (.tmp 1), none⟩,
 ⟨some 22, .call (F 103) [.tmp 21, .const (.int .i64 2), .const (.int .i64 1)], none⟩,
 ⟨some 23, .move (.tmp 1), none⟩,
 ⟨some 24, .call (F 103) [.tmp 23, .const (.int .i64 3), .const (.int .i64 2)], none⟩,
 ⟨some 2, .move (.tmp 22), none⟩,
 ⟨some 3, .move (.tmp 24), none⟩])
 (.seq (.ops [⟨some 26, .move (.tmp 1), none⟩,
 ⟨some 27, .call (F 104) [.tmp 26, .const (.int .i64 2)], none⟩,
 ⟨some 25, .move (.tmp 27), none⟩,
 ⟨some 28, .extract (.tmp 25) 0, none⟩,
 ⟨some 29, .extract (.tmp 25) 1, none⟩,
 ⟨some 4, .move (.tmp 28), none⟩,
 ⟨some 5, .move (.tmp 29), none⟩])
 (.seq (.ops [⟨some 30, .move (.tmp 1), none⟩,
 ⟨some 31, .call (F 100) [.tmp 30], none⟩,
 ⟨some 6, .move (.tmp 31), none⟩])
 (.seq (.ops [⟨some 32, .move (.tmp 1), none⟩,
 ⟨some 33, .call (F 105) [.tmp 32, .const (.int .i64 2)], none⟩,
 ⟨some 34, .move (.tmp 1), none⟩,
 ⟨some 35, .call (F 105) [.tmp 34, .const (.int .i64 3)], none⟩,
 ⟨some 7, .move (.tmp 33), none⟩,
 ⟨some 8, .move (.tmp 35), none⟩])
 (.seq (.ops [⟨some 37, .move (.tmp 1), none⟩,
 ⟨some 38, .call (F 102) [.tmp 37], none⟩,
 ⟨some 39, .call (F 107) [.tmp 38], none⟩,
 ⟨some 36, .move (.tmp 39), none⟩,
 ⟨some 40, .extract (.tmp 36) 0, none⟩,
 ⟨some 41, .extract (.tmp 36) 1, none⟩,
 ⟨some 9, .move (.tmp 40), none⟩,
 ⟨some 10, .move (.tmp 41), none⟩])
 (.seq (.ops [⟨some 42, .move (.tmp 2), none⟩,
 ⟨some 43, .bin .eql (.tmp 42) (.const (.int .i64 0)), none⟩,
 ⟨some 44, .move (.tmp 43), none⟩,
 ⟨some 45, .move (.tmp 3), some (44, true)⟩,
 ⟨some 46, .bin .eql (.tmp 45) (.const (.int .i64 9)), some (44, true)⟩,
 ⟨some 47, .pick (.tmp 44) (.tmp 46) (.const (.bool false)), none⟩,
 ⟨some 48, .move (.tmp 47), none⟩,
 ⟨some 49, .move (.tmp 4), some (48, true)⟩,
 ⟨some 50, .bin .eql (.tmp 49) (.const (.int .i64 9)), some (48, true)⟩,
 ⟨some 51, .pick (.tmp 48) (.tmp 50) (.const (.bool false)), none⟩,
 ⟨some 52, .move (.tmp 51), none⟩,
 ⟨some 53, .move (.tmp 5), some (52, true)⟩,
 ⟨some 54, .bin .eql (.tmp 53) (.const (.int .i64 0)), some (52, true)⟩,
 ⟨some 55, .pick (.tmp 52) (.tmp 54) (.const (.bool false)), none⟩,
 ⟨some 56, .move (.tmp 55), none⟩,
 ⟨some 57, .move (.tmp 6), some (56, true)⟩,
 ⟨some 58, .buildSlice 3 [.int .i64 0, .int .i64 0, .int .i64 0] [((0, 1), .const (.int .i64 1)), ((1, 1), .const (.int .i64 9)), ((2, 1), .const (.int .i64 3))], some (56, true)⟩,
 ⟨some 59, .call (F 69) [.tmp 57, .tmp 58], some (56, true)⟩,
 ⟨some 60, .pick (.tmp 56) (.tmp 59) (.const (.bool false)), none⟩,
 ⟨some 61, .move (.tmp 60), none⟩,
 ⟨some 62, .move (.tmp 7), some (61, true)⟩,
 ⟨some 63, .bin .eql (.tmp 62) (.const (.int .i64 10)), some (61, true)⟩,
 ⟨some 64, .pick (.tmp 61) (.tmp 63) (.const (.bool false)), none⟩,
 ⟨some 65, .move (.tmp 64), none⟩,
 ⟨some 66, .move (.tmp 8), some (65, true)⟩,
 ⟨some 67, .bin .eql (.tmp 66) (.const (.int .i64 0)), some (65, true)⟩,
 ⟨some 68, .pick (.tmp 65) (.tmp 67) (.const (.bool false)), none⟩,
 ⟨some 69, .move (.tmp 68), none⟩,
 ⟨some 70, .move (.tmp 1), some (69, true)⟩,
 ⟨some 71, .call (F 98) [.tmp 70], some (69, true)⟩,
 ⟨some 72, .bin .eql (.tmp 71) (.const (.int .i64 4)), some (69, true)⟩,
 ⟨some 73, .pick (.tmp 69) (.tmp 72) (.const (.bool false)), none⟩,
 ⟨some 74, .move (.tmp 73), none⟩,
 ⟨some 75, .move (.tmp 1), some (74, true)⟩,
 ⟨some 76, .call (F 99) [.tmp 75], some (74, true)⟩,
 ⟨some 77, .bin .eql (.tmp 76) (.const (.int .i64 (-1))), some (74, true)⟩,
 ⟨some 78, .pick (.tmp 74) (.tmp 77) (.const (.bool false)), none⟩,
 ⟨some 79, .move (.tmp 78), none⟩,
 ⟨some 80, .move (.tmp 1), some (79, true)⟩,
 ⟨some 81, .call (F 101) [.tmp 80], some (79, true)⟩,
 ⟨some 82, .lenSl (.tmp 81), some (79, true)⟩,
 ⟨some 83, .bin .eql (.tmp 82) (.const (.int .i64 0)), some (79, true)⟩,
 ⟨some 84, .pick (.tmp 79) (.tmp 83) (.const (.bool false)), none⟩,
 ⟨some 85, .move (.tmp 84), none⟩,
 ⟨some 86, .move (.tmp 10), some (85, true)⟩,
 ⟨some 87, .bin .eql (.tmp 86) (.const (.int .i64 0)), some (85, true)⟩,
 ⟨some 88, .pick (.tmp 85) (.tmp 87) (.const (.bool false)), none⟩,
 ⟨some 89, .move (.tmp 88), none⟩,
 ⟨some 90, .move (.tmp 9), some (89, true)⟩,
 ⟨some 91, .call (F 98) [.tmp 90], some (89, true)⟩,
 ⟨some 92, .bin .eql (.tmp 91) (.const (.int .i64 4)), some (89, true)⟩,
 ⟨some 93, .pick (.tmp 89) (.tmp 92) (.const (.bool false)), none⟩,
 ⟨some 94, .move (.tmp 93), none⟩,
 ⟨some 95, .move (.tmp 1), some (94, true)⟩,
 ⟨some 96, .call (F 106) [.tmp 95, .const (.int .i64 2)], some (94, true)⟩,
 ⟨some 97, .bin .eql (.tmp 96) (.const (.int .i64 0)), some (94, true)⟩,
 ⟨some 98, .pick (.tmp 94) (.tmp 97) (.const (.bool false)), none⟩,
 ⟨some 99, .move (.tmp 98), none⟩,
 ⟨some 100, .move (.tmp 1), some (99, true)⟩,
 ⟨some 101, .call (F 106) [.tmp 100, .const (.int .i64 2)], some (99, true)⟩,
 ⟨some 102, .bin .eql (.tmp 101) (.const (.int .i64 6)), some (99, true)⟩,
 ⟨some 103, .pick (.tmp 99) (.tmp 102) (.const (.bool false)), none⟩,
 ⟨some 0, .move (.tmp 103), none⟩])
 (.ret)))))))))⟩
/-- hurdle/hurdlelaw23.do -/
def c_hurdlelaw23_do (F : Nat → FuncId) (Ty : Nat → TypeId) : IFunc := ⟨114, [.cellN 6 6, .tmp 7],
 .seq (.ops [⟨some 4, .box (.tmp 1), none⟩,
 ⟨some 5, .box (.tmp 2), none⟩,
 ⟨some 6, .alloc [.slice none 0 0, .slice none 0 0, .int .i64 0, .int .i64 0, .bool false, .int .i64 0], none⟩,
 ⟨some 7, .move (.const (.bool false)), none⟩])
 (.seq (.draw [(⟨some 21, .fieldAddr 1 (.tmp 5), none⟩, []),
 (⟨some 22, .load1 (.tmp 21), none⟩, []),
 (⟨some 23, .fieldAddr 2 (.tmp 5), none⟩, []),
 (⟨some 24, .load1 (.tmp 23), none⟩, []),
 (⟨some 8, .move (.tmp 22), none⟩, []),
 (⟨some 9, .move (.tmp 24), none⟩, [])])
 (.seq (.seq (.ops [⟨some 25, .fieldAddr 3 (.tmp 5), none⟩,
 ⟨some 26, .load1 (.tmp 25), none⟩,
 ⟨some 27, .move (.tmp 26), none⟩,
 ⟨some 28, .fieldAddr 0 (.tmp 5), some (27, true)⟩,
 ⟨some 29, .load1 (.tmp 28), some (27, true)⟩,
 ⟨some 30, .bin .eql (.tmp 29) (.const (.int .i64 0)), some (27, true)⟩,
 ⟨some 31, .pick (.tmp 27) (.tmp 30) (.const (.bool false)), none⟩])
 (.cond (.tmp 31)
 (.ops [⟨some 32, .fieldAddr 2 (.tmp 4), none⟩,
 ⟨some 33, .load1 (.tmp 32), none⟩,
 ⟨some 9, .move (.tmp 33), none⟩])
 (.seq (.ops [⟨some 34, .fieldAddr 3 (.tmp 5), none⟩,
 ⟨some 35, .load1 (.tmp 34), none⟩,
 ⟨some 36, .move (.tmp 35), none⟩,
 ⟨some 37, .fieldAddr 0 (.tmp 5), some (36, true)⟩,
 ⟨some 38, .load1 (.tmp 37), some (36, true)⟩,
 ⟨some 39, .bin .lss (.tmp 38) (.const (.int .i64 3)), some (36, true)⟩,
 ⟨some 40, .pick (.tmp 36) (.tmp 39) (.const (.bool false)), none⟩])
 (.cond (.tmp 40)
 (.ops [⟨some 41, .fieldAddr 2 (.tmp 4), none⟩,
 ⟨some 42, .load1 (.tmp 41), none⟩,
 ⟨some 8, .move (.tmp 42), none⟩])
 (.skip)))))
 (.seq (.seq (.ops [⟨some 43, .fieldAddr 0 (.tmp 5), none⟩,
 ⟨some 44, .load1 (.tmp 43), none⟩])
 (.block 0 (.seq (.ops [⟨some 46, .bin .eql (.tmp 44) (.const (.int .i64 0)), none⟩,
 ⟨some 45, .move (.tmp 46), none⟩])
 (.cond (.tmp 45)
 (.seq (.ops [⟨some 48, .loadN 6 (.tmp 4), none⟩,
 ⟨some 49, .move (.tmp 8), none⟩,
 ⟨some 50, .move (.tmp 9), none⟩,
 ⟨some 51, .call (F 119) [.tmp 48, .tmp 49, .tmp 50], none⟩,
 ⟨some 47, .move (.tmp 51), none⟩,
 ⟨some 52, .extract (.tmp 47) 0, none⟩,
 ⟨some 53, .extract (.tmp 47) 1, none⟩,
 ⟨some 10, .alloc [.slice none 0 0, .slice none 0 0, .int .i64 0, .int .i64 0, .bool false, .int .i64 0], none⟩,
 ⟨none, .store 6 (.tmp 10) (.tmp 52), none⟩,
 ⟨some 11, .move (.tmp 53), none⟩])
 (.seq (.draw [(⟨some 54, .loadN 6 (.tmp 10), none⟩, []),
 (⟨some 55, .move (.tmp 0), none⟩, []),
 (⟨some 56, .move (.tmp 8), none⟩, []),
 (⟨some 57, .move (.tmp 9), none⟩, []),
 (⟨some 59, .move (.tmp 11), none⟩, []),
 (⟨some 58, .call (F 103) [.tmp 55, .tmp 56, .tmp 57], none⟩, [⟨some 54, .loadN 6 (.tmp 10), none⟩]),
 (⟨some 60, .bin .eql (.tmp 58) (.tmp 59), none⟩, []),
 (⟨none, .store 6 (.tmp 6) (.tmp 54), none⟩, []),
 (⟨some 7, .move (.tmp 60), none⟩, [])])
 (.ret)))
 (.seq (.ops [⟨some 62, .bin .eql (.tmp 44) (.const (.int .i64 1)), none⟩,
 ⟨some 61, .move (.tmp 62), none⟩])
 (.cond (.tmp 61)
 (.seq (.ops [⟨some 64, .loadN 6 (.tmp 4), none⟩,
 ⟨some 65, .move (.tmp 8), none⟩,
 ⟨some 66, .call (F 120) [.tmp 64, .tmp 65], none⟩,
 ⟨some 63, .move (.tmp 66), none⟩,
 ⟨some 67, .extract (.tmp 63) 0, none⟩,
 ⟨some 68, .extract (.tmp 63) 1, none⟩,
 ⟨some 69, .extract (.tmp 63) 2, none⟩,
 ⟨some 12, .alloc [.slice none 0 0, .slice none 0 0, .int .i64 0, .int .i64 0, .bool false, .int .i64 0], none⟩,
 ⟨none, .store 6 (.tmp 12) (.tmp 67), none⟩,
 ⟨some 13, .move (.tmp 68), none⟩,
 ⟨some 14, .move (.tmp 69), none⟩])
 (.seq (.ops [⟨some 71, .move (.tmp 0), none⟩,
 ⟨some 72, .move (.tmp 8), none⟩,
 ⟨some 73, .call (F 104) [.tmp 71, .tmp 72], none⟩,
 ⟨some 70, .move (.tmp 73), none⟩,
 ⟨some 74, .extract (.tmp 70) 0, none⟩,
 ⟨some 75, .extract (.tmp 70) 1, none⟩,
 ⟨some 15, .move (.tmp 74), none⟩,
 ⟨some 16, .move (.tmp 75), none⟩])
 (.seq (.ops [⟨some 76, .loadN 6 (.tmp 12), none⟩,
 ⟨some 77, .move (.tmp 13), none⟩,
 ⟨some 78, .move (.tmp 15), none⟩,
 ⟨some 79, .bin .eql (.tmp 77) (.tmp 78), none⟩,
 ⟨some 80, .move (.tmp 79), none⟩,
 ⟨some 81, .move (.tmp 16), some (80, true)⟩,
 ⟨some 82, .move (.tmp 14), some (80, true)⟩,
 ⟨some 83, .bin .eql (.tmp 81) (.tmp 82), some (80, true)⟩,
 ⟨some 84, .pick (.tmp 80) (.tmp 83) (.const (.bool false)), none⟩,
 ⟨none, .store 6 (.tmp 6) (.tmp 76), none⟩,
 ⟨some 7, .move (.tmp 84), none⟩])
 (.ret))))
 (.seq (.ops [⟨some 86, .bin .eql (.tmp 44) (.const (.int .i64 2)), none⟩,
 ⟨some 85, .move (.tmp 86), none⟩])
 (.cond (.tmp 85)
 (.seq (.ops [⟨some 88, .loadN 6 (.tmp 4), none⟩,
 ⟨some 89, .move (.tmp 8), none⟩,
 ⟨some 90, .call (F 121) [.tmp 88, .tmp 89], none⟩,
 ⟨some 87, .move (.tmp 90), none⟩,
 ⟨some 91, .extract (.tmp 87) 0, none⟩,
 ⟨some 92, .extract (.tmp 87) 1, none⟩,
 ⟨some 17, .alloc [.slice none 0 0, .slice none 0 0, .int .i64 0, .int .i64 0, .bool false, .int .i64 0], none⟩,
 ⟨none, .store 6 (.tmp 17) (.tmp 91), none⟩,
 ⟨some 18, .move (.tmp 92), none⟩])
 (.seq (.draw [(⟨some 93, .loadN 6 (.tmp 17), none⟩, []),
 (⟨some 94, .move (.tmp 0), none⟩, []),
 (⟨some 95, .move (.tmp 8), none⟩, []),
 (⟨some 97, .move (.tmp 18), none⟩, []),
 (⟨some 96, .call (F 105) [.tmp 94, .tmp 95], none⟩, [⟨some 93, .loadN 6 (.tmp 17), none⟩]),
 (⟨some 98, .bin .eql (.tmp 96) (.tmp 97), none⟩, []),
 (⟨none, .store 6 (.tmp 6) (.tmp 93), none⟩, []),
 (⟨some 7, .move (.tmp 98), none⟩, [])])
 (.ret)))
 (.seq (.ops [⟨some 100, .bin .eql (.tmp 44) (.const (.int .i64 3)), none⟩,
 ⟨some 99, .move (.tmp 100), none⟩])
 (.cond (.tmp 99)
 (.seq (.ops [⟨some 102, .loadN 6 (.tmp 4), none⟩,
 ⟨some 103, .move (.tmp 8), none⟩,
 ⟨some 104, .call (F 122) [.tmp 102, .tmp 103], none⟩,
 ⟨some 101, .move (.tmp 104), none⟩,
 ⟨some 105, .extract (.tmp 101) 0, none⟩,
 ⟨some 106, .extract (.tmp 101) 1, none⟩,
 ⟨some 19, .alloc [.slice none 0 0, .slice none 0 0, .int .i64 0, .int .i64 0, .bool false, .int .i64 0], none⟩,
 ⟨none, .store 6 (.tmp 19) (.tmp 105), none⟩,
 ⟨some 20, .move (.tmp 106), none⟩])
 (.seq (.draw [(⟨some 107, .loadN 6 (.tmp 19), none⟩, []),
 (⟨some 108, .move (.tmp 0), none⟩, []),
 (⟨some 109, .move (.tmp 8), none⟩, []),
 (⟨some 111, .move (.tmp 20), none⟩, []),
 (⟨some 110, .call (F 106) [.tmp 108, .tmp 109], none⟩, [⟨some 107, .loadN 6 (.tmp 19), none⟩]),
 (⟨some 112, .bin .eql (.tmp 110) (.tmp 111), none⟩, []),
 (⟨none, .store 6 (.tmp 6) (.tmp 107), none⟩, []),
 (⟨some 7, .move (.tmp 112), none⟩, [])])
 (.ret)))
 (.skip)))))))))))
 (.seq (.ops [⟨some 113, .loadN 6 (.tmp 4), none⟩,
 ⟨none, .store 6 (.tmp 6) (.tmp 113), none⟩,
 ⟨some 7, .move (.const (.bool true)), none⟩])
 (.ret)))))⟩
/-- A context has these functions. -/
structure HasLaw23 (c : Ctx) : Prop where
 hurdlelaw23_MembersPlays : c.IP (c.F 124) = some (c_hurdlelaw23_MembersPlays c.F c.Ty)
 hurdlelaw23_MembersRise : c.IP (c.F 125) = some (c_hurdlelaw23_MembersRise c.F c.Ty)
 hurdlelaw23_MembersBack : c.IP (c.F 126) = some (c_hurdlelaw23_MembersBack c.F c.Ty)
 hurdlelaw23_MembersOne : c.IP (c.F 127) = some (c_hurdlelaw23_MembersOne c.F c.Ty)
 hurdlelaw23_MembersNone : c.IP (c.F 128) = some (c_hurdlelaw23_MembersNone c.F c.Ty)
 hurdlelaw23_Few : c.IP (c.F 129) = some (c_hurdlelaw23_Few c.F c.Ty)
 hurdlelaw23_awake : c.IP (c.F 130) = some (c_hurdlelaw23_awake c.F c.Ty)
 hurdlelaw23_do : c.IP (c.F 131) = some (c_hurdlelaw23_do c.F c.Ty)

end Go.Proofs.YtkphglpmhebglaaI
