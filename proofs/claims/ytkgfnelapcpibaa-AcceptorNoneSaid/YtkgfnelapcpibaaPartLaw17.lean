/- PRINTED by gen.py (this session's own): the intermediate form of some functions, and a context's having them. -/
import Derived.Test.YtkgfnelapcpibaaIdealZ
namespace Go.Proofs.YtkgfnelapcpibaaI
set_option linter.unusedSimpArgs false
set_option linter.unusedVariables false
open Go

/-- hurdle/hurdlelaw17.AcceptorPlays -/
abbrev n_hurdlelaw17_AcceptorPlays : Nat := 198
/-- hurdle/hurdlelaw17.AcceptorRises -/
abbrev n_hurdlelaw17_AcceptorRises : Nat := 199
/-- hurdle/hurdlelaw17.AcceptorTells -/
abbrev n_hurdlelaw17_AcceptorTells : Nat := 200
/-- hurdle/hurdlelaw17.AcceptorNone -/
abbrev n_hurdlelaw17_AcceptorNone : Nat := 201
/-- hurdle/hurdlelaw17.Few -/
abbrev n_hurdlelaw17_Few : Nat := 202
/-- hurdle/hurdlelaw17.awake -/
abbrev n_hurdlelaw17_awake : Nat := 203
/-- hurdle/hurdlelaw17.AcceptorPlays -/
def c_hurdlelaw17_AcceptorPlays (F : Nat → FuncId) (Ty : Nat → TypeId) : IFunc := ⟨135, [.tmp 2],
 .seq (.ops [⟨some 2, .move (.const (.bool false)), none⟩])
 (.seq (.seq (.ops [⟨some 17, .move (.tmp 0), none⟩,
 ⟨some 18, .call (F 202) [.tmp 17], none⟩,
 ⟨some 19, .bin .eql (.tmp 18) (.const (.int .i64 0)), none⟩])
 (.cond (.tmp 19)
 (.seq (.ops [⟨some 20, .call (F 203) [], none⟩,
 ⟨some 2, .move (.tmp 20), none⟩])
 (.ret))
 (.skip)))
 (.seq (.ops [⟨some 21, .call (F 177) [], none⟩,
 ⟨some 22, .build [.int .i64 0, .int .i64 0, .int .i64 0, .slice none 0 0] [], none⟩,
 ⟨some 4, .alloc [.int .i64 0, .int .i64 0, .int .i64 0, .slice none 0 0], none⟩,
 ⟨some 3, .move (.tmp 21), none⟩,
 ⟨none, .store 4 (.tmp 4) (.tmp 22), none⟩])
 (.seq (.seq (.ops [⟨some 5, .move (.const (.int .i64 0)), none⟩])
 (.block 0 (.loop (.seq (.seq (.ops [⟨some 23, .move (.tmp 5), none⟩,
 ⟨some 24, .move (.tmp 0), none⟩,
 ⟨some 25, .lenSl (.tmp 24), none⟩,
 ⟨some 26, .bin .lss (.tmp 23) (.tmp 25), none⟩])
 (.cond (.tmp 26)
 (.skip)
 (.exit 0)))
 (.seq (.block 1 (.seq (.ops [⟨some 6, .move (.const (.bool true)), none⟩])
 (.seq (.ops [⟨some 29, .move (.tmp 0), none⟩,
 ⟨some 30, .move (.tmp 5), none⟩,
 ⟨some 31, .idxSl 5 (.tmp 29) (.tmp 30), none⟩,
 ⟨some 32, .fieldAddr 1 (.tmp 31), none⟩,
 ⟨some 33, .loadN 4 (.tmp 32), none⟩,
 ⟨some 7, .alloc [.int .i64 0, .int .i64 0, .int .i64 0, .string ⟨#[]⟩], none⟩,
 ⟨none, .store 4 (.tmp 7) (.tmp 33), none⟩])
 (.seq (.seq (.ops [⟨some 34, .move (.tmp 0), none⟩,
 ⟨some 35, .move (.tmp 5), none⟩,
 ⟨some 36, .idxSl 5 (.tmp 34) (.tmp 35), none⟩,
 ⟨some 37, .fieldAddr 0 (.tmp 36), none⟩,
 ⟨some 38, .load1 (.tmp 37), none⟩])
 (.block 2 (.seq (.ops [⟨some 40, .bin .eql (.tmp 38) (.const (.int .i64 0)), none⟩,
 ⟨some 39, .move (.tmp 40), none⟩])
 (.cond (.tmp 39)
 (.seq (.ops [⟨some 42, .loadN 4 (.tmp 4), none⟩,
 ⟨some 43, .fieldAddr 1 (.tmp 7), none⟩,
 ⟨some 44, .loadN 2 (.tmp 43), none⟩,
 ⟨some 45, .fieldAddr 0 (.tmp 7), none⟩,
 ⟨some 46, .load1 (.tmp 45), none⟩,
 ⟨some 47, .call (F 194) [.tmp 42, .tmp 44, .tmp 46], none⟩,
 ⟨some 41, .move (.tmp 47), none⟩,
 ⟨some 48, .extract (.tmp 41) 0, none⟩,
 ⟨some 49, .extract (.tmp 41) 1, none⟩,
 ⟨some 50, .extract (.tmp 41) 2, none⟩,
 ⟨some 8, .alloc [.int .i64 0, .int .i64 0, .int .i64 0, .slice none 0 0], none⟩,
 ⟨none, .store 4 (.tmp 8) (.tmp 48), none⟩,
 ⟨some 9, .move (.tmp 49), none⟩,
 ⟨some 10, .move (.tmp 50), none⟩])
 (.seq (.ops [⟨some 51, .loadN 4 (.tmp 8), none⟩,
 ⟨none, .store 4 (.tmp 4) (.tmp 51), none⟩])
 (.seq (.ops [⟨some 53, .move (.tmp 3), none⟩,
 ⟨some 54, .fieldAddr 1 (.tmp 7), none⟩,
 ⟨some 55, .loadN 2 (.tmp 54), none⟩,
 ⟨some 56, .fieldAddr 0 (.tmp 7), none⟩,
 ⟨some 57, .load1 (.tmp 56), none⟩,
 ⟨some 58, .call (F 181) [.tmp 53, .tmp 55, .tmp 57], none⟩,
 ⟨some 52, .move (.tmp 58), none⟩,
 ⟨some 59, .extract (.tmp 52) 0, none⟩,
 ⟨some 60, .extract (.tmp 52) 1, none⟩,
 ⟨some 11, .move (.tmp 59), none⟩,
 ⟨some 12, .move (.tmp 60), none⟩])
 (.ops [⟨some 61, .move (.tmp 11), none⟩,
 ⟨some 62, .move (.tmp 9), none⟩,
 ⟨some 63, .call (F 197) [.tmp 61, .tmp 62], none⟩,
 ⟨some 64, .move (.tmp 63), none⟩,
 ⟨some 65, .move (.tmp 10), some (64, true)⟩,
 ⟨some 66, .move (.tmp 12), some (64, true)⟩,
 ⟨some 67, .eqv false [] (.tmp 65) (.tmp 66), some (64, true)⟩,
 ⟨some 68, .pick (.tmp 64) (.tmp 67) (.const (.bool false)), none⟩,
 ⟨some 6, .move (.tmp 68), none⟩]))))
 (.seq (.ops [⟨some 70, .bin .eql (.tmp 38) (.const (.int .i64 1)), none⟩,
 ⟨some 69, .move (.tmp 70), none⟩])
 (.cond (.tmp 69)
 (.seq (.ops [⟨some 72, .loadN 4 (.tmp 4), none⟩,
 ⟨some 73, .loadN 4 (.tmp 7), none⟩,
 ⟨some 74, .call (F 195) [.tmp 72, .tmp 73], none⟩,
 ⟨some 71, .move (.tmp 74), none⟩,
 ⟨some 75, .extract (.tmp 71) 0, none⟩,
 ⟨some 76, .extract (.tmp 71) 1, none⟩,
 ⟨some 13, .alloc [.int .i64 0, .int .i64 0, .int .i64 0, .slice none 0 0], none⟩,
 ⟨none, .store 4 (.tmp 13) (.tmp 75), none⟩,
 ⟨some 14, .move (.tmp 76), none⟩])
 (.seq (.ops [⟨some 77, .loadN 4 (.tmp 13), none⟩,
 ⟨none, .store 4 (.tmp 4) (.tmp 77), none⟩])
 (.ops [⟨some 78, .move (.tmp 3), none⟩,
 ⟨some 79, .loadN 4 (.tmp 7), none⟩,
 ⟨some 80, .call (F 182) [.tmp 78, .tmp 79], none⟩,
 ⟨some 81, .move (.tmp 14), none⟩,
 ⟨some 82, .eqv false [] (.tmp 80) (.tmp 81), none⟩,
 ⟨some 6, .move (.tmp 82), none⟩])))
 (.seq (.ops [⟨some 84, .bin .eql (.tmp 38) (.const (.int .i64 2)), none⟩,
 ⟨some 83, .move (.tmp 84), none⟩])
 (.cond (.tmp 83)
 (.seq (.ops [⟨some 86, .loadN 4 (.tmp 4), none⟩,
 ⟨some 87, .fieldAddr 0 (.tmp 7), none⟩,
 ⟨some 88, .load1 (.tmp 87), none⟩,
 ⟨some 89, .call (F 196) [.tmp 86, .tmp 88], none⟩,
 ⟨some 85, .move (.tmp 89), none⟩,
 ⟨some 90, .extract (.tmp 85) 0, none⟩,
 ⟨some 91, .extract (.tmp 85) 1, none⟩,
 ⟨some 15, .alloc [.int .i64 0, .int .i64 0, .int .i64 0, .slice none 0 0], none⟩,
 ⟨none, .store 4 (.tmp 15) (.tmp 90), none⟩,
 ⟨some 16, .move (.tmp 91), none⟩])
 (.seq (.ops [⟨some 92, .loadN 4 (.tmp 15), none⟩,
 ⟨none, .store 4 (.tmp 4) (.tmp 92), none⟩])
 (.ops [⟨some 93, .move (.tmp 3), none⟩,
 ⟨some 94, .fieldAddr 0 (.tmp 7), none⟩,
 ⟨some 95, .load1 (.tmp 94), none⟩,
 ⟨some 96, .call (F 183) [.tmp 93, .tmp 95], none⟩,
 ⟨some 97, .move (.tmp 16), none⟩,
 ⟨some 98, .bin .eql (.tmp 96) (.tmp 97), none⟩,
 ⟨some 6, .move (.tmp 98), none⟩])))
 (.skip)))))))))
 (.seq (.draw [(⟨some 99, .move (.tmp 6), none⟩, []),
 (⟨some 100, .un .not (.tmp 99), none⟩, []),
 (⟨some 101, .move (.tmp 100), none⟩, []),
 (⟨some 102, .move (.tmp 3), some (101, false)⟩, []),
 (⟨some 104, .fieldAddr 0 (.tmp 4), some (101, false)⟩, []),
 (⟨some 105, .loadN 2 (.tmp 104), some (101, false)⟩, []),
 (⟨some 103, .call (F 184) [.tmp 102], some (101, false)⟩, [⟨some 105, .loadN 2 (.tmp 104), some (101, false)⟩]),
 (⟨some 106, .eqv true [.i .i64, .i .i64] (.tmp 103) (.tmp 105), some (101, false)⟩, []),
 (⟨some 107, .pick (.tmp 101) (.const (.bool true)) (.tmp 106), none⟩, []),
 (⟨some 108, .move (.tmp 107), none⟩, []),
 (⟨some 109, .move (.tmp 3), some (108, false)⟩, []),
 (⟨some 111, .fieldAddr 2 (.tmp 4), some (108, false)⟩, []),
 (⟨some 112, .load1 (.tmp 111), some (108, false)⟩, []),
 (⟨some 110, .call (F 186) [.tmp 109], some (108, false)⟩, [⟨some 112, .load1 (.tmp 111), some (108, false)⟩]),
 (⟨some 113, .bin .neq (.tmp 110) (.tmp 112), some (108, false)⟩, []),
 (⟨some 114, .pick (.tmp 108) (.const (.bool true)) (.tmp 113), none⟩, []),
 (⟨some 115, .move (.tmp 114), none⟩, []),
 (⟨some 116, .move (.tmp 3), some (115, false)⟩, []),
 (⟨some 117, .fieldAddr 0 (.tmp 7), some (115, false)⟩, []),
 (⟨some 118, .load1 (.tmp 117), some (115, false)⟩, []),
 (⟨some 120, .loadN 4 (.tmp 4), some (115, false)⟩, []),
 (⟨some 121, .fieldAddr 0 (.tmp 7), some (115, false)⟩, []),
 (⟨some 122, .load1 (.tmp 121), some (115, false)⟩, []),
 (⟨some 119, .call (F 185) [.tmp 116, .tmp 118], some (115, false)⟩, [⟨some 120, .loadN 4 (.tmp 4), some (115, false)⟩, ⟨some 122, .load1 (.tmp 121), some (115, false)⟩]),
 (⟨some 123, .call (F 192) [.tmp 120, .tmp 122], some (115, false)⟩, []),
 (⟨some 124, .call (F 197) [.tmp 119, .tmp 123], some (115, false)⟩, []),
 (⟨some 125, .un .not (.tmp 124), some (115, false)⟩, []),
 (⟨some 126, .pick (.tmp 115) (.const (.bool true)) (.tmp 125), none⟩, [])])
 (.cond (.tmp 126)
 (.seq (.ops [⟨some 2, .move (.const (.bool false)), none⟩])
 (.ret))
 (.skip)))))))
 (.ops [⟨some 27, .move (.tmp 5), none⟩,
 ⟨some 28, .bin .add (.tmp 27) (.const (.int .i64 1)), none⟩,
 ⟨some 5, .move (.tmp 28), none⟩]))))))
 (.seq (.draw [(⟨some 127, .move (.tmp 3), none⟩, []),
 (⟨some 129, .fieldAddr 3 (.tmp 4), none⟩, []),
 (⟨some 130, .load1 (.tmp 129), none⟩, []),
 (⟨some 128, .call (F 185) [.tmp 127, .const (.int .i64 0)], none⟩, [⟨some 130, .load1 (.tmp 129), none⟩]),
 (⟨some 131, .call (F 197) [.tmp 128, .tmp 130], none⟩, []),
 (⟨some 132, .move (.tmp 131), none⟩, []),
 (⟨some 133, .call (F 203) [], some (132, true)⟩, []),
 (⟨some 134, .pick (.tmp 132) (.tmp 133) (.const (.bool false)), none⟩, []),
 (⟨some 2, .move (.tmp 134), none⟩, [])])
 (.ret)))))⟩
/-- hurdle/hurdlelaw17.AcceptorRises -/
def c_hurdlelaw17_AcceptorRises (F : Nat → FuncId) (Ty : Nat → TypeId) : IFunc := ⟨107, [.tmp 2],
 .seq (.ops [⟨some 2, .move (.const (.bool false)), none⟩])
 (.seq (.seq (.ops [⟨some 11, .move (.tmp 0), none⟩,
 ⟨some 12, .call (F 202) [.tmp 11], none⟩,
 ⟨some 13, .bin .eql (.tmp 12) (.const (.int .i64 0)), none⟩])
 (.cond (.tmp 13)
 (.seq (.ops [⟨some 14, .call (F 203) [], none⟩,
 ⟨some 2, .move (.tmp 14), none⟩])
 (.ret))
 (.skip)))
 (.seq (.ops [⟨some 15, .call (F 177) [], none⟩,
 ⟨some 3, .move (.tmp 15), none⟩])
 (.seq (.seq (.ops [⟨some 4, .move (.const (.int .i64 0)), none⟩])
 (.block 0 (.loop (.seq (.seq (.ops [⟨some 16, .move (.tmp 4), none⟩,
 ⟨some 17, .move (.tmp 0), none⟩,
 ⟨some 18, .lenSl (.tmp 17), none⟩,
 ⟨some 19, .bin .lss (.tmp 16) (.tmp 18), none⟩])
 (.cond (.tmp 19)
 (.skip)
 (.exit 0)))
 (.seq (.block 1 (.seq (.ops [⟨some 22, .move (.tmp 0), none⟩,
 ⟨some 23, .move (.tmp 4), none⟩,
 ⟨some 24, .idxSl 5 (.tmp 22) (.tmp 23), none⟩,
 ⟨some 25, .fieldAddr 1 (.tmp 24), none⟩,
 ⟨some 26, .loadN 4 (.tmp 25), none⟩,
 ⟨some 5, .alloc [.int .i64 0, .int .i64 0, .int .i64 0, .string ⟨#[]⟩], none⟩,
 ⟨none, .store 4 (.tmp 5) (.tmp 26), none⟩])
 (.seq (.ops [⟨some 27, .move (.tmp 3), none⟩,
 ⟨some 28, .call (F 184) [.tmp 27], none⟩,
 ⟨some 29, .move (.tmp 3), none⟩,
 ⟨some 30, .call (F 185) [.tmp 29, .const (.int .i64 0)], none⟩,
 ⟨some 6, .alloc [.int .i64 0, .int .i64 0], none⟩,
 ⟨none, .store 2 (.tmp 6) (.tmp 28), none⟩,
 ⟨some 7, .move (.tmp 30), none⟩])
 (.seq (.seq (.ops [⟨some 31, .move (.tmp 0), none⟩,
 ⟨some 32, .move (.tmp 4), none⟩,
 ⟨some 33, .idxSl 5 (.tmp 31) (.tmp 32), none⟩,
 ⟨some 34, .fieldAddr 0 (.tmp 33), none⟩,
 ⟨some 35, .load1 (.tmp 34), none⟩])
 (.block 2 (.seq (.ops [⟨some 37, .bin .eql (.tmp 35) (.const (.int .i64 0)), none⟩,
 ⟨some 36, .move (.tmp 37), none⟩])
 (.cond (.tmp 36)
 (.ops [⟨some 38, .move (.tmp 3), none⟩,
 ⟨some 39, .fieldAddr 1 (.tmp 5), none⟩,
 ⟨some 40, .loadN 2 (.tmp 39), none⟩,
 ⟨some 41, .fieldAddr 0 (.tmp 5), none⟩,
 ⟨some 42, .load1 (.tmp 41), none⟩,
 ⟨some 43, .call (F 181) [.tmp 38, .tmp 40, .tmp 42], none⟩])
 (.seq (.ops [⟨some 45, .bin .eql (.tmp 35) (.const (.int .i64 1)), none⟩,
 ⟨some 44, .move (.tmp 45), none⟩])
 (.cond (.tmp 44)
 (.seq (.ops [⟨some 46, .move (.tmp 3), none⟩,
 ⟨some 47, .loadN 4 (.tmp 5), none⟩,
 ⟨some 48, .call (F 182) [.tmp 46, .tmp 47], none⟩,
 ⟨some 49, .move (.tmp 48), none⟩,
 ⟨some 50, .fieldAddr 1 (.tmp 5), some (49, true)⟩,
 ⟨some 51, .loadN 2 (.tmp 50), some (49, true)⟩,
 ⟨some 52, .loadN 2 (.tmp 6), some (49, true)⟩,
 ⟨some 53, .call (F 14) [.tmp 51, .tmp 52], some (49, true)⟩,
 ⟨some 54, .bin .lss (.tmp 53) (.const (.int .i64 0)), some (49, true)⟩,
 ⟨some 55, .pick (.tmp 49) (.tmp 54) (.const (.bool false)), none⟩])
 (.cond (.tmp 55)
 (.seq (.ops [⟨some 2, .move (.const (.bool false)), none⟩])
 (.ret))
 (.skip)))
 (.seq (.ops [⟨some 57, .bin .eql (.tmp 35) (.const (.int .i64 2)), none⟩,
 ⟨some 56, .move (.tmp 57), none⟩])
 (.cond (.tmp 56)
 (.ops [⟨some 58, .move (.tmp 3), none⟩,
 ⟨some 59, .fieldAddr 0 (.tmp 5), none⟩,
 ⟨some 60, .load1 (.tmp 59), none⟩,
 ⟨some 61, .call (F 183) [.tmp 58, .tmp 60], none⟩])
 (.skip)))))))))
 (.seq (.ops [⟨some 62, .move (.tmp 3), none⟩,
 ⟨some 63, .call (F 185) [.tmp 62, .const (.int .i64 0)], none⟩,
 ⟨some 8, .move (.tmp 63), none⟩])
 (.seq (.seq (.ops [⟨some 9, .move (.const (.int .i64 0)), none⟩])
 (.block 3 (.loop (.seq (.seq (.ops [⟨some 64, .move (.tmp 9), none⟩,
 ⟨some 65, .move (.tmp 7), none⟩,
 ⟨some 66, .lenSl (.tmp 65), none⟩,
 ⟨some 67, .bin .lss (.tmp 64) (.tmp 66), none⟩])
 (.cond (.tmp 67)
 (.skip)
 (.exit 3)))
 (.seq (.block 4 (.seq (.ops [⟨some 10, .move (.const (.int .i64 0)), none⟩])
 (.block 5 (.loop (.seq (.seq (.ops [⟨some 70, .move (.tmp 10), none⟩,
 ⟨some 71, .move (.tmp 8), none⟩,
 ⟨some 72, .lenSl (.tmp 71), none⟩,
 ⟨some 73, .bin .lss (.tmp 70) (.tmp 72), none⟩])
 (.cond (.tmp 73)
 (.skip)
 (.exit 5)))
 (.seq (.block 6 (.seq (.draw [(⟨some 76, .move (.tmp 8), none⟩, []),
 (⟨some 77, .move (.tmp 10), none⟩, []),
 (⟨some 78, .idxSl 4 (.tmp 76) (.tmp 77), none⟩, []),
 (⟨some 79, .fieldAddr 0 (.tmp 78), none⟩, []),
 (⟨some 80, .load1 (.tmp 79), none⟩, []),
 (⟨some 81, .move (.tmp 7), none⟩, []),
 (⟨some 82, .move (.tmp 9), none⟩, []),
 (⟨some 83, .idxSl 4 (.tmp 81) (.tmp 82), none⟩, []),
 (⟨some 84, .fieldAddr 0 (.tmp 83), none⟩, []),
 (⟨some 85, .load1 (.tmp 84), none⟩, []),
 (⟨some 86, .bin .eql (.tmp 80) (.tmp 85), none⟩, []),
 (⟨some 87, .move (.tmp 86), none⟩, []),
 (⟨some 88, .move (.tmp 8), some (87, true)⟩, []),
 (⟨some 89, .move (.tmp 10), some (87, true)⟩, []),
 (⟨some 90, .idxSl 4 (.tmp 88) (.tmp 89), some (87, true)⟩, []),
 (⟨some 91, .fieldAddr 1 (.tmp 90), some (87, true)⟩, []),
 (⟨some 92, .loadN 2 (.tmp 91), some (87, true)⟩, []),
 (⟨some 93, .move (.tmp 7), some (87, true)⟩, []),
 (⟨some 94, .move (.tmp 9), some (87, true)⟩, []),
 (⟨some 95, .idxSl 4 (.tmp 93) (.tmp 94), some (87, true)⟩, []),
 (⟨some 96, .fieldAddr 1 (.tmp 95), some (87, true)⟩, []),
 (⟨some 97, .loadN 2 (.tmp 96), some (87, true)⟩, []),
 (⟨some 98, .call (F 14) [.tmp 92, .tmp 97], some (87, true)⟩, []),
 (⟨some 99, .bin .lss (.tmp 98) (.const (.int .i64 0)), some (87, true)⟩, []),
 (⟨some 100, .pick (.tmp 87) (.tmp 99) (.const (.bool false)), none⟩, [])])
 (.cond (.tmp 100)
 (.seq (.ops [⟨some 2, .move (.const (.bool false)), none⟩])
 (.ret))
 (.skip))))
 (.ops [⟨some 74, .move (.tmp 10), none⟩,
 ⟨some 75, .bin .add (.tmp 74) (.const (.int .i64 1)), none⟩,
 ⟨some 10, .move (.tmp 75), none⟩])))))))
 (.ops [⟨some 68, .move (.tmp 9), none⟩,
 ⟨some 69, .bin .add (.tmp 68) (.const (.int .i64 1)), none⟩,
 ⟨some 9, .move (.tmp 69), none⟩]))))))
 (.seq (.draw [(⟨some 101, .move (.tmp 3), none⟩, []),
 (⟨some 103, .loadN 2 (.tmp 6), none⟩, []),
 (⟨some 102, .call (F 184) [.tmp 101], none⟩, [⟨some 103, .loadN 2 (.tmp 6), none⟩]),
 (⟨some 104, .call (F 14) [.tmp 102, .tmp 103], none⟩, []),
 (⟨some 105, .bin .lss (.tmp 104) (.const (.int .i64 0)), none⟩, [])])
 (.cond (.tmp 105)
 (.seq (.ops [⟨some 2, .move (.const (.bool false)), none⟩])
 (.ret))
 (.skip)))))))))
 (.ops [⟨some 20, .move (.tmp 4), none⟩,
 ⟨some 21, .bin .add (.tmp 20) (.const (.int .i64 1)), none⟩,
 ⟨some 4, .move (.tmp 21), none⟩]))))))
 (.seq (.ops [⟨some 106, .call (F 203) [], none⟩,
 ⟨some 2, .move (.tmp 106), none⟩])
 (.ret)))))⟩
/-- hurdle/hurdlelaw17.AcceptorTells -/
def c_hurdlelaw17_AcceptorTells (F : Nat → FuncId) (Ty : Nat → TypeId) : IFunc := ⟨121, [.tmp 6],
 .seq (.ops [⟨some 3, .box (.tmp 0), none⟩,
 ⟨some 5, .box (.tmp 2), none⟩,
 ⟨some 6, .move (.const (.bool false)), none⟩])
 (.seq (.seq (.ops [⟨some 15, .move (.tmp 1), none⟩,
 ⟨some 16, .call (F 202) [.tmp 15], none⟩,
 ⟨some 17, .bin .eql (.tmp 16) (.const (.int .i64 0)), none⟩,
 ⟨some 18, .move (.tmp 17), none⟩,
 ⟨some 19, .fieldAddr 3 (.tmp 3), some (18, false)⟩,
 ⟨some 20, .load1 (.tmp 19), some (18, false)⟩,
 ⟨some 21, .strLen (.tmp 20), some (18, false)⟩,
 ⟨some 22, .bin .gtr (.tmp 21) (.const (.int .i64 5000)), some (18, false)⟩,
 ⟨some 23, .pick (.tmp 18) (.const (.bool true)) (.tmp 22), none⟩])
 (.cond (.tmp 23)
 (.seq (.ops [⟨some 24, .call (F 203) [], none⟩,
 ⟨some 6, .move (.tmp 24), none⟩])
 (.ret))
 (.skip)))
 (.seq (.ops [⟨some 25, .call (F 177) [], none⟩,
 ⟨some 7, .move (.tmp 25), none⟩])
 (.seq (.seq (.ops [⟨some 26, .move (.tmp 7), none⟩,
 ⟨some 27, .loadN 4 (.tmp 3), none⟩,
 ⟨some 28, .call (F 182) [.tmp 26, .tmp 27], none⟩,
 ⟨some 29, .un .not (.tmp 28), none⟩])
 (.cond (.tmp 29)
 (.seq (.ops [⟨some 30, .move (.tmp 7), none⟩,
 ⟨some 31, .call (F 185) [.tmp 30, .const (.int .i64 0)], none⟩,
 ⟨some 32, .lenSl (.tmp 31), none⟩,
 ⟨some 33, .bin .eql (.tmp 32) (.const (.int .i64 0)), none⟩,
 ⟨some 34, .move (.tmp 33), none⟩,
 ⟨some 35, .call (F 203) [], some (34, true)⟩,
 ⟨some 36, .pick (.tmp 34) (.tmp 35) (.const (.bool false)), none⟩,
 ⟨some 6, .move (.tmp 36), none⟩])
 (.ret))
 (.skip)))
 (.seq (.ops [⟨some 8, .move (.const (.bool false)), none⟩])
 (.seq (.seq (.ops [⟨some 9, .move (.const (.int .i64 0)), none⟩])
 (.block 0 (.loop (.seq (.seq (.ops [⟨some 37, .move (.tmp 9), none⟩,
 ⟨some 38, .move (.tmp 1), none⟩,
 ⟨some 39, .lenSl (.tmp 38), none⟩,
 ⟨some 40, .bin .lss (.tmp 37) (.tmp 39), none⟩])
 (.cond (.tmp 40)
 (.skip)
 (.exit 0)))
 (.seq (.block 1 (.seq (.ops [⟨some 43, .move (.tmp 1), none⟩,
 ⟨some 44, .move (.tmp 9), none⟩,
 ⟨some 45, .idxSl 5 (.tmp 43) (.tmp 44), none⟩,
 ⟨some 46, .fieldAddr 1 (.tmp 45), none⟩,
 ⟨some 47, .loadN 4 (.tmp 46), none⟩,
 ⟨some 10, .alloc [.int .i64 0, .int .i64 0, .int .i64 0, .string ⟨#[]⟩], none⟩,
 ⟨none, .store 4 (.tmp 10) (.tmp 47), none⟩])
 (.seq (.ops [⟨some 48, .move (.tmp 1), none⟩,
 ⟨some 49, .move (.tmp 9), none⟩,
 ⟨some 50, .idxSl 5 (.tmp 48) (.tmp 49), none⟩,
 ⟨some 51, .fieldAddr 0 (.tmp 50), none⟩,
 ⟨some 52, .load1 (.tmp 51), none⟩])
 (.block 2 (.seq (.ops [⟨some 54, .bin .eql (.tmp 52) (.const (.int .i64 0)), none⟩,
 ⟨some 53, .move (.tmp 54), none⟩])
 (.cond (.tmp 53)
 (.ops [⟨some 55, .move (.tmp 7), none⟩,
 ⟨some 56, .fieldAddr 1 (.tmp 10), none⟩,
 ⟨some 57, .loadN 2 (.tmp 56), none⟩,
 ⟨some 58, .fieldAddr 0 (.tmp 10), none⟩,
 ⟨some 59, .load1 (.tmp 58), none⟩,
 ⟨some 60, .call (F 181) [.tmp 55, .tmp 57, .tmp 59], none⟩])
 (.seq (.ops [⟨some 62, .bin .eql (.tmp 52) (.const (.int .i64 1)), none⟩,
 ⟨some 61, .move (.tmp 62), none⟩])
 (.cond (.tmp 61)
 (.seq (.ops [⟨some 63, .move (.tmp 7), none⟩,
 ⟨some 64, .loadN 4 (.tmp 10), none⟩,
 ⟨some 65, .call (F 182) [.tmp 63, .tmp 64], none⟩,
 ⟨some 66, .move (.tmp 65), none⟩,
 ⟨some 67, .fieldAddr 0 (.tmp 10), some (66, true)⟩,
 ⟨some 68, .load1 (.tmp 67), some (66, true)⟩,
 ⟨some 69, .fieldAddr 0 (.tmp 3), some (66, true)⟩,
 ⟨some 70, .load1 (.tmp 69), some (66, true)⟩,
 ⟨some 71, .bin .eql (.tmp 68) (.tmp 70), some (66, true)⟩,
 ⟨some 72, .pick (.tmp 66) (.tmp 71) (.const (.bool false)), none⟩])
 (.cond (.tmp 72)
 (.ops [⟨some 73, .loadN 4 (.tmp 10), none⟩,
 ⟨none, .store 4 (.tmp 3) (.tmp 73), none⟩])
 (.skip)))
 (.seq (.ops [⟨some 75, .bin .eql (.tmp 52) (.const (.int .i64 2)), none⟩,
 ⟨some 74, .move (.tmp 75), none⟩])
 (.cond (.tmp 74)
 (.seq (.ops [⟨some 76, .move (.tmp 7), none⟩,
 ⟨some 77, .fieldAddr 0 (.tmp 10), none⟩,
 ⟨some 78, .load1 (.tmp 77), none⟩,
 ⟨some 79, .call (F 183) [.tmp 76, .tmp 78], none⟩])
 (.ops [⟨some 80, .move (.tmp 8), none⟩,
 ⟨some 81, .move (.tmp 80), none⟩,
 ⟨some 82, .fieldAddr 0 (.tmp 10), some (81, false)⟩,
 ⟨some 83, .load1 (.tmp 82), some (81, false)⟩,
 ⟨some 84, .fieldAddr 0 (.tmp 3), some (81, false)⟩,
 ⟨some 85, .load1 (.tmp 84), some (81, false)⟩,
 ⟨some 86, .bin .gtr (.tmp 83) (.tmp 85), some (81, false)⟩,
 ⟨some 87, .pick (.tmp 81) (.const (.bool true)) (.tmp 86), none⟩,
 ⟨some 8, .move (.tmp 87), none⟩]))
 (.skip)))))))))))
 (.ops [⟨some 41, .move (.tmp 9), none⟩,
 ⟨some 42, .bin .add (.tmp 41) (.const (.int .i64 1)), none⟩,
 ⟨some 9, .move (.tmp 42), none⟩]))))))
 (.seq (.draw [(⟨some 89, .move (.tmp 7), none⟩, []),
 (⟨some 90, .loadN 2 (.tmp 5), none⟩, []),
 (⟨some 91, .move (.tmp 7), none⟩, []),
 (⟨some 92, .call (F 186) [.tmp 91], none⟩, [⟨some 90, .loadN 2 (.tmp 5), none⟩]),
 (⟨some 93, .call (F 181) [.tmp 89, .tmp 90, .tmp 92], none⟩, []),
 (⟨some 88, .move (.tmp 93), none⟩, []),
 (⟨some 94, .extract (.tmp 88) 0, none⟩, []),
 (⟨some 95, .extract (.tmp 88) 1, none⟩, []),
 (⟨some 11, .move (.tmp 94), none⟩, []),
 (⟨some 12, .move (.tmp 95), none⟩, [])])
 (.seq (.seq (.ops [⟨some 96, .move (.tmp 12), none⟩,
 ⟨some 97, .un .not (.tmp 96), none⟩])
 (.cond (.tmp 97)
 (.seq (.ops [⟨some 98, .call (F 203) [], none⟩,
 ⟨some 6, .move (.tmp 98), none⟩])
 (.ret))
 (.skip)))
 (.seq (.ops [⟨some 13, .move (.const (.bool false)), none⟩])
 (.seq (.seq (.ops [⟨some 14, .move (.const (.int .i64 0)), none⟩])
 (.block 3 (.loop (.seq (.seq (.ops [⟨some 99, .move (.tmp 14), none⟩,
 ⟨some 100, .move (.tmp 11), none⟩,
 ⟨some 101, .lenSl (.tmp 100), none⟩,
 ⟨some 102, .bin .lss (.tmp 99) (.tmp 101), none⟩])
 (.cond (.tmp 102)
 (.skip)
 (.exit 3)))
 (.seq (.block 4 (.draw [(⟨some 105, .move (.tmp 13), none⟩, []),
 (⟨some 106, .move (.tmp 105), none⟩, []),
 (⟨some 107, .move (.tmp 11), some (106, false)⟩, []),
 (⟨some 108, .move (.tmp 14), some (106, false)⟩, []),
 (⟨some 109, .idxSl 4 (.tmp 107) (.tmp 108), some (106, false)⟩, []),
 (⟨some 110, .loadN 4 (.tmp 109), some (106, false)⟩, []),
 (⟨some 111, .loadN 4 (.tmp 3), some (106, false)⟩, []),
 (⟨some 112, .eqv false [.i .i64, .i .i64, .i .i64, .s] (.tmp 110) (.tmp 111), some (106, false)⟩, []),
 (⟨some 113, .pick (.tmp 106) (.const (.bool true)) (.tmp 112), none⟩, []),
 (⟨some 13, .move (.tmp 113), none⟩, [])]))
 (.ops [⟨some 103, .move (.tmp 14), none⟩,
 ⟨some 104, .bin .add (.tmp 103) (.const (.int .i64 1)), none⟩,
 ⟨some 14, .move (.tmp 104), none⟩]))))))
 (.seq (.ops [⟨some 114, .move (.tmp 13), none⟩,
 ⟨some 115, .move (.tmp 8), none⟩,
 ⟨some 116, .un .not (.tmp 115), none⟩,
 ⟨some 117, .eqv false [] (.tmp 114) (.tmp 116), none⟩,
 ⟨some 118, .move (.tmp 117), none⟩,
 ⟨some 119, .call (F 203) [], some (118, true)⟩,
 ⟨some 120, .pick (.tmp 118) (.tmp 119) (.const (.bool false)), none⟩,
 ⟨some 6, .move (.tmp 120), none⟩])
 (.ret)))))))))))⟩
/-- hurdle/hurdlelaw17.AcceptorNone -/
def c_hurdlelaw17_AcceptorNone (F : Nat → FuncId) (Ty : Nat → TypeId) : IFunc := ⟨55, [.tmp 2],
 .seq (.ops [⟨some 1, .box (.tmp 0), none⟩,
 ⟨some 2, .move (.const (.bool false)), none⟩])
 (.seq (.ops [⟨some 3, .move (.const (.pointer none)), none⟩])
 (.seq (.ops [⟨some 7, .move (.tmp 3), none⟩,
 ⟨some 8, .fieldAddr 1 (.tmp 1), none⟩,
 ⟨some 9, .loadN 2 (.tmp 8), none⟩,
 ⟨some 10, .fieldAddr 0 (.tmp 1), none⟩,
 ⟨some 11, .load1 (.tmp 10), none⟩,
 ⟨some 12, .call (F 181) [.tmp 7, .tmp 9, .tmp 11], none⟩,
 ⟨some 6, .move (.tmp 12), none⟩,
 ⟨some 13, .extract (.tmp 6) 0, none⟩,
 ⟨some 14, .extract (.tmp 6) 1, none⟩,
 ⟨some 4, .move (.tmp 13), none⟩,
 ⟨some 5, .move (.tmp 14), none⟩])
 (.seq (.ops [⟨some 15, .move (.tmp 4), none⟩,
 ⟨some 16, .lenSl (.tmp 15), none⟩,
 ⟨some 17, .bin .eql (.tmp 16) (.const (.int .i64 0)), none⟩,
 ⟨some 18, .move (.tmp 17), none⟩,
 ⟨some 19, .move (.tmp 5), some (18, true)⟩,
 ⟨some 20, .un .not (.tmp 19), some (18, true)⟩,
 ⟨some 21, .pick (.tmp 18) (.tmp 20) (.const (.bool false)), none⟩,
 ⟨some 22, .move (.tmp 21), none⟩,
 ⟨some 23, .move (.tmp 3), some (22, true)⟩,
 ⟨some 24, .loadN 4 (.tmp 1), some (22, true)⟩,
 ⟨some 25, .call (F 182) [.tmp 23, .tmp 24], some (22, true)⟩,
 ⟨some 26, .un .not (.tmp 25), some (22, true)⟩,
 ⟨some 27, .pick (.tmp 22) (.tmp 26) (.const (.bool false)), none⟩,
 ⟨some 28, .move (.tmp 27), none⟩,
 ⟨some 29, .move (.tmp 3), some (28, true)⟩,
 ⟨some 30, .fieldAddr 0 (.tmp 1), some (28, true)⟩,
 ⟨some 31, .load1 (.tmp 30), some (28, true)⟩,
 ⟨some 32, .call (F 183) [.tmp 29, .tmp 31], some (28, true)⟩,
 ⟨some 33, .bin .eql (.tmp 32) (.const (.int .i64 0)), some (28, true)⟩,
 ⟨some 34, .pick (.tmp 28) (.tmp 33) (.const (.bool false)), none⟩,
 ⟨some 35, .move (.tmp 34), none⟩,
 ⟨some 36, .move (.tmp 3), some (35, true)⟩,
 ⟨some 37, .call (F 184) [.tmp 36], some (35, true)⟩,
 ⟨some 38, .build [.int .i64 0, .int .i64 0] [], some (35, true)⟩,
 ⟨some 39, .eqv false [.i .i64, .i .i64] (.tmp 37) (.tmp 38), some (35, true)⟩,
 ⟨some 40, .pick (.tmp 35) (.tmp 39) (.const (.bool false)), none⟩,
 ⟨some 41, .move (.tmp 40), none⟩,
 ⟨some 42, .move (.tmp 3), some (41, true)⟩,
 ⟨some 43, .call (F 185) [.tmp 42, .const (.int .i64 0)], some (41, true)⟩,
 ⟨some 44, .lenSl (.tmp 43), some (41, true)⟩,
 ⟨some 45, .bin .eql (.tmp 44) (.const (.int .i64 0)), some (41, true)⟩,
 ⟨some 46, .pick (.tmp 41) (.tmp 45) (.const (.bool false)), none⟩,
 ⟨some 47, .move (.tmp 46), none⟩,
 ⟨some 48, .move (.tmp 3), some (47, true)⟩,
 ⟨some 49, .call (F 186) [.tmp 48], some (47, true)⟩,
 ⟨some 50, .bin .eql (.tmp 49) (.const (.int .i64 0)), some (47, true)⟩,
 ⟨some 51, .pick (.tmp 47) (.tmp 50) (.const (.bool false)), none⟩,
 ⟨some 52, .move (.tmp 51), none⟩,
 ⟨some 53, .call (F 203) [], some (52, true)⟩,
 ⟨some 54, .pick (.tmp 52) (.tmp 53) (.const (.bool false)), none⟩,
 ⟨some 2, .move (.tmp 54), none⟩])
 (.ret))))⟩
/-- hurdle/hurdlelaw17.Few -/
def c_hurdlelaw17_Few (F : Nat → FuncId) (Ty : Nat → TypeId) : IFunc := ⟨21, [.tmp 2],
 .seq (.ops [⟨some 2, .move (.const (.int .i64 0)), none⟩])
 (.seq (.seq (.ops [⟨some 4, .move (.tmp 0), none⟩,
 ⟨some 5, .lenSl (.tmp 4), none⟩,
 ⟨some 6, .bin .gtr (.tmp 5) (.const (.int .i64 60)), none⟩])
 (.cond (.tmp 6)
 (.seq (.ops [⟨some 2, .move (.const (.int .i64 0)), none⟩])
 (.ret))
 (.skip)))
 (.seq (.seq (.ops [⟨some 3, .move (.const (.int .i64 0)), none⟩])
 (.block 0 (.loop (.seq (.seq (.ops [⟨some 7, .move (.tmp 3), none⟩,
 ⟨some 8, .move (.tmp 0), none⟩,
 ⟨some 9, .lenSl (.tmp 8), none⟩,
 ⟨some 10, .bin .lss (.tmp 7) (.tmp 9), none⟩])
 (.cond (.tmp 10)
 (.skip)
 (.exit 0)))
 (.seq (.block 1 (.seq (.ops [⟨some 13, .move (.tmp 0), none⟩,
 ⟨some 14, .move (.tmp 3), none⟩,
 ⟨some 15, .idxSl 5 (.tmp 13) (.tmp 14), none⟩,
 ⟨some 16, .fieldAddr 1 (.tmp 15), none⟩,
 ⟨some 17, .fieldAddr 3 (.tmp 16), none⟩,
 ⟨some 18, .load1 (.tmp 17), none⟩,
 ⟨some 19, .strLen (.tmp 18), none⟩,
 ⟨some 20, .bin .gtr (.tmp 19) (.const (.int .i64 5000)), none⟩])
 (.cond (.tmp 20)
 (.seq (.ops [⟨some 2, .move (.const (.int .i64 0)), none⟩])
 (.ret))
 (.skip))))
 (.ops [⟨some 11, .move (.tmp 3), none⟩,
 ⟨some 12, .bin .add (.tmp 11) (.const (.int .i64 1)), none⟩,
 ⟨some 3, .move (.tmp 12), none⟩]))))))
 (.seq (.ops [⟨some 2, .move (.const (.int .i64 1)), none⟩])
 (.ret))))⟩
/-- hurdle/hurdlelaw17.awake -/
def c_hurdlelaw17_awake (F : Nat → FuncId) (Ty : Nat → TypeId) : IFunc := ⟨90, [.tmp 0],
 .seq (.ops [⟨some 0, .move (.const (.bool false)), none⟩])
 (.seq (.ops [⟨some 11, .call (F 177) [], none⟩,
 ⟨some 1, .move (.tmp 11), none⟩])
 (.seq (.seq (.ops [⟨some 12, .move (.tmp 1), none⟩,
 ⟨some 13, .eqNil 0 false (.tmp 12), none⟩])
 (.cond (.tmp 13)
 (.seq (.ops [⟨some 0, .move (.const (.bool false)), none⟩])
 (.ret))
 (.skip)))
 (.seq (.ops [⟨some 15, .move (.tmp 1), none⟩,
 ⟨some 16, .build [.int .i64 0, .int .i64 0] [((0, 1), .const (.int .i64 2))], none⟩,
 ⟨some 17, .call (F 181) [.tmp 15, .tmp 16, .const (.int .i64 0)], none⟩,
 ⟨some 14, .move (.tmp 17), none⟩,
 ⟨some 18, .extract (.tmp 14) 0, none⟩,
 ⟨some 19, .extract (.tmp 14) 1, none⟩,
 ⟨some 2, .move (.tmp 18), none⟩,
 ⟨some 3, .move (.tmp 19), none⟩])
 (.seq (.ops [⟨some 20, .move (.tmp 1), none⟩,
 ⟨some 21, .build [.int .i64 0, .int .i64 0] [((0, 1), .const (.int .i64 1))], none⟩,
 ⟨some 22, .build [.int .i64 0, .int .i64 0, .int .i64 0, .string ⟨#[]⟩] [((1, 2), .tmp 21), ((3, 1), .const (.string ⟨#[120]⟩))], none⟩,
 ⟨some 23, .call (F 182) [.tmp 20, .tmp 22], none⟩,
 ⟨some 4, .move (.tmp 23), none⟩])
 (.seq (.ops [⟨some 24, .move (.tmp 1), none⟩,
 ⟨some 25, .build [.int .i64 0, .int .i64 0] [((0, 1), .const (.int .i64 2))], none⟩,
 ⟨some 26, .build [.int .i64 0, .int .i64 0, .int .i64 0, .string ⟨#[]⟩] [((0, 1), .const (.int .i64 3)), ((1, 2), .tmp 25), ((3, 1), .const (.string ⟨#[120]⟩))], none⟩,
 ⟨some 27, .call (F 182) [.tmp 24, .tmp 26], none⟩,
 ⟨some 5, .move (.tmp 27), none⟩])
 (.seq (.ops [⟨some 29, .move (.tmp 1), none⟩,
 ⟨some 30, .build [.int .i64 0, .int .i64 0] [((0, 1), .const (.int .i64 3))], none⟩,
 ⟨some 31, .call (F 181) [.tmp 29, .tmp 30, .const (.int .i64 0)], none⟩,
 ⟨some 28, .move (.tmp 31), none⟩,
 ⟨some 32, .extract (.tmp 28) 0, none⟩,
 ⟨some 33, .extract (.tmp 28) 1, none⟩,
 ⟨some 6, .move (.tmp 32), none⟩,
 ⟨some 7, .move (.tmp 33), none⟩])
 (.seq (.ops [⟨some 34, .move (.tmp 1), none⟩,
 ⟨some 35, .call (F 183) [.tmp 34, .const (.int .i64 4)], none⟩,
 ⟨some 8, .move (.tmp 35), none⟩])
 (.seq (.ops [⟨some 37, .move (.tmp 1), none⟩,
 ⟨some 38, .build [.int .i64 0, .int .i64 0] [((0, 1), .const (.int .i64 4))], none⟩,
 ⟨some 39, .call (F 181) [.tmp 37, .tmp 38, .const (.int .i64 3)], none⟩,
 ⟨some 36, .move (.tmp 39), none⟩,
 ⟨some 40, .extract (.tmp 36) 0, none⟩,
 ⟨some 41, .extract (.tmp 36) 1, none⟩,
 ⟨some 9, .move (.tmp 40), none⟩,
 ⟨some 10, .move (.tmp 41), none⟩])
 (.seq (.ops [⟨some 42, .move (.tmp 3), none⟩,
 ⟨some 43, .move (.tmp 42), none⟩,
 ⟨some 44, .move (.tmp 4), some (43, true)⟩,
 ⟨some 45, .un .not (.tmp 44), some (43, true)⟩,
 ⟨some 46, .pick (.tmp 43) (.tmp 45) (.const (.bool false)), none⟩,
 ⟨some 47, .move (.tmp 46), none⟩,
 ⟨some 48, .move (.tmp 5), some (47, true)⟩,
 ⟨some 49, .pick (.tmp 47) (.tmp 48) (.const (.bool false)), none⟩,
 ⟨some 50, .move (.tmp 49), none⟩,
 ⟨some 51, .move (.tmp 10), some (50, true)⟩,
 ⟨some 52, .un .not (.tmp 51), some (50, true)⟩,
 ⟨some 53, .pick (.tmp 50) (.tmp 52) (.const (.bool false)), none⟩,
 ⟨some 54, .move (.tmp 53), none⟩,
 ⟨some 55, .move (.tmp 6), some (54, true)⟩,
 ⟨some 56, .lenSl (.tmp 55), some (54, true)⟩,
 ⟨some 57, .bin .eql (.tmp 56) (.const (.int .i64 1)), some (54, true)⟩,
 ⟨some 58, .pick (.tmp 54) (.tmp 57) (.const (.bool false)), none⟩,
 ⟨some 59, .move (.tmp 58), none⟩,
 ⟨some 60, .move (.tmp 6), some (59, true)⟩,
 ⟨some 61, .idxSl 4 (.tmp 60) (.const (.int .i64 0)), some (59, true)⟩,
 ⟨some 62, .fieldAddr 3 (.tmp 61), some (59, true)⟩,
 ⟨some 63, .load1 (.tmp 62), some (59, true)⟩,
 ⟨some 64, .bin .eql (.tmp 63) (.const (.string ⟨#[120]⟩)), some (59, true)⟩,
 ⟨some 65, .pick (.tmp 59) (.tmp 64) (.const (.bool false)), none⟩,
 ⟨some 66, .move (.tmp 65), none⟩,
 ⟨some 67, .move (.tmp 7), some (66, true)⟩,
 ⟨some 68, .pick (.tmp 66) (.tmp 67) (.const (.bool false)), none⟩,
 ⟨some 69, .move (.tmp 68), none⟩,
 ⟨some 70, .move (.tmp 8), some (69, true)⟩,
 ⟨some 71, .bin .eql (.tmp 70) (.const (.int .i64 1)), some (69, true)⟩,
 ⟨some 72, .pick (.tmp 69) (.tmp 71) (.const (.bool false)), none⟩,
 ⟨some 73, .move (.tmp 72), none⟩,
 ⟨some 74, .move (.tmp 1), some (73, true)⟩,
 ⟨some 75, .call (F 186) [.tmp 74], some (73, true)⟩,
 ⟨some 76, .bin .eql (.tmp 75) (.const (.int .i64 4)), some (73, true)⟩,
 ⟨some 77, .pick (.tmp 73) (.tmp 76) (.const (.bool false)), none⟩,
 ⟨some 78, .move (.tmp 77), none⟩,
 ⟨some 79, .move (.tmp 1), some (78, true)⟩,
 ⟨some 80, .call (F 184) [.tmp 79], some (78, true)⟩,
 ⟨some 81, .build [.int .i64 0, .int .i64 0] [((0, 1), .const (.int .i64 3))], some (78, true)⟩,
 ⟨some 82, .eqv false [.i .i64, .i .i64] (.tmp 80) (.tmp 81), some (78, true)⟩,
 ⟨some 83, .pick (.tmp 78) (.tmp 82) (.const (.bool false)), none⟩,
 ⟨some 84, .move (.tmp 83), none⟩,
 ⟨some 85, .move (.tmp 1), some (84, true)⟩,
 ⟨some 86, .call (F 185) [.tmp 85, .const (.int .i64 0)], some (84, true)⟩,
 ⟨some 87, .lenSl (.tmp 86), some (84, true)⟩,
 ⟨some 88, .bin .eql (.tmp 87) (.const (.int .i64 0)), some (84, true)⟩,
 ⟨some 89, .pick (.tmp 84) (.tmp 88) (.const (.bool false)), none⟩,
 ⟨some 0, .move (.tmp 89), none⟩])
 (.ret))))))))))⟩
/-- A context has these functions. -/
structure HasLaw17 (c : Ctx) : Prop where
 hurdlelaw17_AcceptorPlays : c.IP (c.F 198) = some (c_hurdlelaw17_AcceptorPlays c.F c.Ty)
 hurdlelaw17_AcceptorRises : c.IP (c.F 199) = some (c_hurdlelaw17_AcceptorRises c.F c.Ty)
 hurdlelaw17_AcceptorTells : c.IP (c.F 200) = some (c_hurdlelaw17_AcceptorTells c.F c.Ty)
 hurdlelaw17_AcceptorNone : c.IP (c.F 201) = some (c_hurdlelaw17_AcceptorNone c.F c.Ty)
 hurdlelaw17_Few : c.IP (c.F 202) = some (c_hurdlelaw17_Few c.F c.Ty)
 hurdlelaw17_awake : c.IP (c.F 203) = some (c_hurdlelaw17_awake c.F c.Ty)

end Go.Proofs.YtkgfnelapcpibaaI
