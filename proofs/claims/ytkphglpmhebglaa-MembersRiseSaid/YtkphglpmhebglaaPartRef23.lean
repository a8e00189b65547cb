/- PRINTED by gen.py (this session's own): the intermediate form of some functions, and a context's having them. -/
import Derived.Test.YtkphglpmhebglaaPartMembers
namespace Go.Proofs.YtkphglpmhebglaaI
set_option linter.unusedSimpArgs false
set_option linter.unusedVariables false
open Go

/-- hurdle/hurdleref23.New -/
abbrev n_hurdleref23_New : Nat := 113
/-- hurdle/hurdleref23.Text -/
abbrev n_hurdleref23_Text : Nat := 114
/-- hurdle/hurdleref23.Apart -/
abbrev n_hurdleref23_Apart : Nat := 115
/-- hurdle/hurdleref23.Read -/
abbrev n_hurdleref23_Read : Nat := 116
/-- hurdle/hurdleref23.At -/
abbrev n_hurdleref23_At : Nat := 117
/-- hurdle/hurdleref23.Group -/
abbrev n_hurdleref23_Group : Nat := 118
/-- hurdle/hurdleref23.Fail -/
abbrev n_hurdleref23_Fail : Nat := 119
/-- hurdle/hurdleref23.Swap -/
abbrev n_hurdleref23_Swap : Nat := 120
/-- hurdle/hurdleref23.Done -/
abbrev n_hurdleref23_Done : Nat := 121
/-- hurdle/hurdleref23.Add -/
abbrev n_hurdleref23_Add : Nat := 122
/-- hurdle/hurdleref23.may -/
abbrev n_hurdleref23_may : Nat := 123
/-- hurdle/hurdleref23.New -/
def c_hurdleref23_New (F : Nat → FuncId) (Ty : Nat → TypeId) : IFunc := ⟨28, [.cellN 4 6, .tmp 5],
 .seq (.ops [⟨some 4, .alloc [.slice none 0 0, .slice none 0 0, .int .i64 0, .int .i64 0, .bool false, .int .i64 0], none⟩,
 ⟨some 5, .move (.const (.bool false)), none⟩])
 (.seq (.seq (.ops [⟨some 6, .move (.tmp 0), none⟩,
 ⟨some 7, .call (F 118) [.tmp 6], none⟩,
 ⟨some 8, .un .not (.tmp 7), none⟩,
 ⟨some 9, .move (.tmp 8), none⟩,
 ⟨some 10, .move (.tmp 1), some (9, false)⟩,
 ⟨some 11, .lenSl (.tmp 10), some (9, false)⟩,
 ⟨some 12, .bin .gtr (.tmp 11) (.const (.int .i64 64)), some (9, false)⟩,
 ⟨some 13, .pick (.tmp 9) (.const (.bool true)) (.tmp 12), none⟩,
 ⟨some 14, .move (.tmp 13), none⟩,
 ⟨some 15, .move (.tmp 0), some (14, false)⟩,
 ⟨some 16, .append 1 8 (.const (.slice none 0 0)) (.tmp 15), some (14, false)⟩,
 ⟨some 17, .move (.tmp 1), some (14, false)⟩,
 ⟨some 18, .append 1 8 (.tmp 16) (.tmp 17), some (14, false)⟩,
 ⟨some 19, .call (F 115) [.tmp 18], some (14, false)⟩,
 ⟨some 20, .un .not (.tmp 19), some (14, false)⟩,
 ⟨some 21, .pick (.tmp 14) (.const (.bool true)) (.tmp 20), none⟩])
 (.cond (.tmp 21)
 (.seq (.ops [⟨some 22, .build [.slice none 0 0, .slice none 0 0, .int .i64 0, .int .i64 0, .bool false, .int .i64 0] [((3, 1), .const (.int .i64 (-1))), ((5, 1), .const (.int .i64 (-1)))], none⟩,
 ⟨none, .store 6 (.tmp 4) (.tmp 22), none⟩,
 ⟨some 5, .move (.const (.bool false)), none⟩])
 (.ret))
 (.skip)))
 (.seq (.ops [⟨some 23, .move (.tmp 0), none⟩,
 ⟨some 24, .append 1 8 (.const (.slice none 0 0)) (.tmp 23), none⟩,
 ⟨some 25, .move (.tmp 1), none⟩,
 ⟨some 26, .append 1 8 (.const (.slice none 0 0)) (.tmp 25), none⟩,
 ⟨some 27, .build [.slice none 0 0, .slice none 0 0, .int .i64 0, .int .i64 0, .bool false, .int .i64 0] [((0, 1), .tmp 24), ((1, 1), .tmp 26), ((2, 1), .const (.int .i64 1)), ((3, 1), .const (.int .i64 (-1))), ((5, 1), .const (.int .i64 (-1)))], none⟩,
 ⟨none, .store 6 (.tmp 4) (.tmp 27), none⟩,
 ⟨some 5, .move (.const (.bool true)), none⟩])
 (.ret)))⟩
/-- hurdle/hurdleref23.Text -/
def c_hurdleref23_Text (F : Nat → FuncId) (Ty : Nat → TypeId) : IFunc := ⟨27, [.tmp 2],
 .seq (.ops [⟨some 1, .box (.tmp 0), none⟩,
 ⟨some 2, .move (.const (.string ⟨#[]⟩)), none⟩])
 (.seq (.ops [⟨some 3, .move (.const (.string ⟨#[0]⟩)), none⟩])
 (.seq (.seq (.ops [⟨some 4, .fieldAddr 4 (.tmp 1), none⟩,
 ⟨some 5, .load1 (.tmp 4), none⟩])
 (.cond (.tmp 5)
 (.ops [⟨some 3, .move (.const (.string ⟨#[1]⟩)), none⟩])
 (.skip)))
 (.seq (.draw [(⟨some 6, .fieldAddr 2 (.tmp 1), none⟩, []),
 (⟨some 7, .load1 (.tmp 6), none⟩, []),
 (⟨some 9, .fieldAddr 3 (.tmp 1), none⟩, []),
 (⟨some 10, .load1 (.tmp 9), none⟩, []),
 (⟨some 13, .move (.tmp 3), none⟩, []),
 (⟨some 15, .fieldAddr 5 (.tmp 1), none⟩, []),
 (⟨some 16, .load1 (.tmp 15), none⟩, []),
 (⟨some 19, .fieldAddr 0 (.tmp 1), none⟩, []),
 (⟨some 20, .load1 (.tmp 19), none⟩, []),
 (⟨some 23, .fieldAddr 1 (.tmp 1), none⟩, []),
 (⟨some 24, .load1 (.tmp 23), none⟩, []),
 (⟨some 8, .call (F 62) [.tmp 7], none⟩, [⟨some 10, .load1 (.tmp 9), none⟩, ⟨some 16, .load1 (.tmp 15), none⟩, ⟨some 20, .load1 (.tmp 19), none⟩, ⟨some 24, .load1 (.tmp 23), none⟩]),
 (⟨some 11, .call (F 62) [.tmp 10], none⟩, [⟨some 16, .load1 (.tmp 15), none⟩, ⟨some 20, .load1 (.tmp 19), none⟩, ⟨some 24, .load1 (.tmp 23), none⟩]),
 (⟨some 12, .bin .add (.tmp 8) (.tmp 11), none⟩, []),
 (⟨some 14, .bin .add (.tmp 12) (.tmp 13), none⟩, []),
 (⟨some 17, .call (F 62) [.tmp 16], none⟩, [⟨some 20, .load1 (.tmp 19), none⟩, ⟨some 24, .load1 (.tmp 23), none⟩]),
 (⟨some 18, .bin .add (.tmp 14) (.tmp 17), none⟩, []),
 (⟨some 21, .call (F 60) [.tmp 20], none⟩, [⟨some 24, .load1 (.tmp 23), none⟩]),
 (⟨some 22, .bin .add (.tmp 18) (.tmp 21), none⟩, []),
 (⟨some 25, .call (F 60) [.tmp 24], none⟩, []),
 (⟨some 26, .bin .add (.tmp 22) (.tmp 25), none⟩, []),
 (⟨some 2, .move (.tmp 26), none⟩, [])])
 (.ret))))⟩
/-- hurdle/hurdleref23.Apart -/
def c_hurdleref23_Apart (F : Nat → FuncId) (Ty : Nat → TypeId) : IFunc := ⟨33, [.tmp 2],
 .seq (.ops [⟨some 2, .move (.const (.bool false)), none⟩])
 (.seq (.seq (.ops [⟨some 3, .move (.const (.int .i64 0)), none⟩])
 (.block 0 (.loop (.seq (.seq (.ops [⟨some 4, .move (.tmp 3), none⟩,
 ⟨some 5, .move (.tmp 0), none⟩,
 ⟨some 6, .lenSl (.tmp 5), none⟩,
 ⟨some 7, .bin .lss (.tmp 4) (.tmp 6), none⟩])
 (.cond (.tmp 7)
 (.skip)
 (.exit 0)))
 (.seq (.block 1 (.seq (.draw [(⟨some 10, .move (.tmp 0), none⟩, []),
 (⟨some 11, .move (.tmp 3), none⟩, []),
 (⟨some 12, .idxSl 1 (.tmp 10) (.tmp 11), none⟩, []),
 (⟨some 13, .load1 (.tmp 12), none⟩, []),
 (⟨some 14, .bin .lss (.tmp 13) (.const (.int .i64 0)), none⟩, []),
 (⟨some 15, .move (.tmp 14), none⟩, []),
 (⟨some 16, .move (.tmp 0), some (15, false)⟩, []),
 (⟨some 17, .move (.tmp 3), some (15, false)⟩, []),
 (⟨some 18, .idxSl 1 (.tmp 16) (.tmp 17), some (15, false)⟩, []),
 (⟨some 19, .load1 (.tmp 18), some (15, false)⟩, []),
 (⟨some 20, .bin .gtr (.tmp 19) (.const (.int .i64 63)), some (15, false)⟩, []),
 (⟨some 21, .pick (.tmp 15) (.const (.bool true)) (.tmp 20), none⟩, []),
 (⟨some 22, .move (.tmp 21), none⟩, []),
 (⟨some 23, .move (.tmp 0), some (22, false)⟩, []),
 (⟨some 24, .move (.tmp 3), some (22, false)⟩, []),
 (⟨some 25, .sliceSl 1 (.tmp 23) none (some (.tmp 24)) none, some (22, false)⟩, []),
 (⟨some 26, .move (.tmp 0), some (22, false)⟩, []),
 (⟨some 27, .move (.tmp 3), some (22, false)⟩, []),
 (⟨some 28, .idxSl 1 (.tmp 26) (.tmp 27), some (22, false)⟩, []),
 (⟨some 29, .load1 (.tmp 28), some (22, false)⟩, []),
 (⟨some 30, .call (F 117) [.tmp 25, .tmp 29], some (22, false)⟩, []),
 (⟨some 31, .bin .geq (.tmp 30) (.const (.int .i64 0)), some (22, false)⟩, []),
 (⟨some 32, .pick (.tmp 22) (.const (.bool true)) (.tmp 31), none⟩, [])])
 (.cond (.tmp 32)
 (.seq (.ops [⟨some 2, .move (.const (.bool false)), none⟩])
 (.ret))
 (.skip))))
 (.ops [⟨some 8, .move (.tmp 3), none⟩,
 ⟨some 9, .bin .add (.tmp 8) (.const (.int .i64 1)), none⟩,
 ⟨some 3, .move (.tmp 9), none⟩]))))))
 (.seq (.ops [⟨some 2, .move (.const (.bool true)), none⟩])
 (.ret)))⟩
/-- hurdle/hurdleref23.Read -/
def c_hurdleref23_Read (F : Nat → FuncId) (Ty : Nat → TypeId) : IFunc := ⟨66, [.cellN 2 6, .tmp 3],
 .seq (.ops [⟨some 2, .alloc [.slice none 0 0, .slice none 0 0, .int .i64 0, .int .i64 0, .bool false, .int .i64 0], none⟩,
 ⟨some 3, .move (.const (.int .i64 0)), none⟩])
 (.seq (.ops [⟨some 12, .move (.tmp 0), none⟩,
 ⟨some 13, .build [.string ⟨#[]⟩, .bool false] [((0, 1), .tmp 12)], none⟩,
 ⟨some 4, .alloc [.string ⟨#[]⟩, .bool false], none⟩,
 ⟨none, .store 2 (.tmp 4) (.tmp 13), none⟩])
 (.seq (.ops [⟨some 15, .loadN 2 (.tmp 4), none⟩,
 ⟨some 16, .call (F 67) [.tmp 15], none⟩,
 ⟨some 14, .move (.tmp 16), none⟩,
 ⟨some 17, .extract (.tmp 14) 0, none⟩,
 ⟨some 18, .extract (.tmp 14) 1, none⟩,
 ⟨none, .store 2 (.tmp 4) (.tmp 17), none⟩,
 ⟨some 5, .move (.tmp 18), none⟩])
 (.seq (.ops [⟨some 20, .loadN 2 (.tmp 4), none⟩,
 ⟨some 21, .call (F 67) [.tmp 20], none⟩,
 ⟨some 19, .move (.tmp 21), none⟩,
 ⟨some 22, .extract (.tmp 19) 0, none⟩,
 ⟨some 23, .extract (.tmp 19) 1, none⟩,
 ⟨none, .store 2 (.tmp 4) (.tmp 22), none⟩,
 ⟨some 6, .move (.tmp 23), none⟩])
 (.seq (.ops [⟨some 25, .loadN 2 (.tmp 4), none⟩,
 ⟨some 26, .call (F 63) [.tmp 25], none⟩,
 ⟨some 24, .move (.tmp 26), none⟩,
 ⟨some 27, .extract (.tmp 24) 0, none⟩,
 ⟨some 28, .extract (.tmp 24) 1, none⟩,
 ⟨none, .store 2 (.tmp 4) (.tmp 27), none⟩,
 ⟨some 7, .move (.tmp 28), none⟩])
 (.seq (.ops [⟨some 30, .loadN 2 (.tmp 4), none⟩,
 ⟨some 31, .call (F 67) [.tmp 30], none⟩,
 ⟨some 29, .move (.tmp 31), none⟩,
 ⟨some 32, .extract (.tmp 29) 0, none⟩,
 ⟨some 33, .extract (.tmp 29) 1, none⟩,
 ⟨none, .store 2 (.tmp 4) (.tmp 32), none⟩,
 ⟨some 8, .move (.tmp 33), none⟩])
 (.seq (.ops [⟨some 35, .loadN 2 (.tmp 4), none⟩,
 ⟨some 36, .call (F 65) [.tmp 35], none⟩,
 ⟨some 34, .move (.tmp 36), none⟩,
 ⟨some 37, .extract (.tmp 34) 0, none⟩,
 ⟨some 38, .extract (.tmp 34) 1, none⟩,
 ⟨none, .store 2 (.tmp 4) (.tmp 37), none⟩,
 ⟨some 9, .move (.tmp 38), none⟩])
 (.seq (.ops [⟨some 40, .loadN 2 (.tmp 4), none⟩,
 ⟨some 41, .call (F 65) [.tmp 40], none⟩,
 ⟨some 39, .move (.tmp 41), none⟩,
 ⟨some 42, .extract (.tmp 39) 0, none⟩,
 ⟨some 43, .extract (.tmp 39) 1, none⟩,
 ⟨none, .store 2 (.tmp 4) (.tmp 42), none⟩,
 ⟨some 10, .move (.tmp 43), none⟩])
 (.seq (.ops [⟨some 44, .move (.tmp 9), none⟩,
 ⟨some 45, .move (.tmp 10), none⟩,
 ⟨some 46, .move (.tmp 5), none⟩,
 ⟨some 47, .move (.tmp 6), none⟩,
 ⟨some 48, .move (.tmp 7), none⟩,
 ⟨some 49, .bin .eql (.tmp 48) (.const (.int .i64 1)), none⟩,
 ⟨some 50, .move (.tmp 8), none⟩,
 ⟨some 51, .build [.slice none 0 0, .slice none 0 0, .int .i64 0, .int .i64 0, .bool false, .int .i64 0] [((0, 1), .tmp 44), ((1, 1), .tmp 45), ((2, 1), .tmp 46), ((3, 1), .tmp 47), ((4, 1), .tmp 49), ((5, 1), .tmp 50)], none⟩,
 ⟨some 11, .alloc [.slice none 0 0, .slice none 0 0, .int .i64 0, .int .i64 0, .bool false, .int .i64 0], none⟩,
 ⟨none, .store 6 (.tmp 11) (.tmp 51), none⟩])
 (.seq (.seq (.ops [⟨some 52, .loadN 2 (.tmp 4), none⟩,
 ⟨some 53, .call (F 56) [.tmp 52], none⟩,
 ⟨some 54, .bin .neq (.tmp 53) (.const (.int .i64 0)), none⟩,
 ⟨some 55, .move (.tmp 54), none⟩,
 ⟨some 56, .move (.tmp 7), some (55, false)⟩,
 ⟨some 57, .bin .gtr (.tmp 56) (.const (.int .i64 1)), some (55, false)⟩,
 ⟨some 58, .pick (.tmp 55) (.const (.bool true)) (.tmp 57), none⟩,
 ⟨some 59, .move (.tmp 58), none⟩,
 ⟨some 60, .loadN 6 (.tmp 11), some (59, false)⟩,
 ⟨some 61, .call (F 123) [.tmp 60], some (59, false)⟩,
 ⟨some 62, .un .not (.tmp 61), some (59, false)⟩,
 ⟨some 63, .pick (.tmp 59) (.const (.bool true)) (.tmp 62), none⟩])
 (.cond (.tmp 63)
 (.seq (.ops [⟨some 64, .build [.slice none 0 0, .slice none 0 0, .int .i64 0, .int .i64 0, .bool false, .int .i64 0] [((3, 1), .const (.int .i64 (-1))), ((5, 1), .const (.int .i64 (-1)))], none⟩,
 ⟨none, .store 6 (.tmp 2) (.tmp 64), none⟩,
 ⟨some 3, .move (.const (.int .i64 3)), none⟩])
 (.ret))
 (.skip)))
 (.seq (.ops [⟨some 65, .loadN 6 (.tmp 11), none⟩,
 ⟨none, .store 6 (.tmp 2) (.tmp 65), none⟩,
 ⟨some 3, .move (.const (.int .i64 0)), none⟩])
 (.ret)))))))))))⟩
/-- hurdle/hurdleref23.At -/
def c_hurdleref23_At (F : Nat → FuncId) (Ty : Nat → TypeId) : IFunc := ⟨19, [.tmp 4],
 .seq (.ops [⟨some 4, .move (.const (.int .i64 0)), none⟩])
 (.seq (.seq (.ops [⟨some 5, .move (.const (.int .i64 0)), none⟩])
 (.block 0 (.loop (.seq (.seq (.ops [⟨some 6, .move (.tmp 5), none⟩,
 ⟨some 7, .move (.tmp 0), none⟩,
 ⟨some 8, .lenSl (.tmp 7), none⟩,
 ⟨some 9, .bin .lss (.tmp 6) (.tmp 8), none⟩])
 (.cond (.tmp 9)
 (.skip)
 (.exit 0)))
 (.seq (.block 1 (.seq (.ops [⟨some 12, .move (.tmp 0), none⟩,
 ⟨some 13, .move (.tmp 5), none⟩,
 ⟨some 14, .idxSl 1 (.tmp 12) (.tmp 13), none⟩,
 ⟨some 15, .load1 (.tmp 14), none⟩,
 ⟨some 16, .move (.tmp 1), none⟩,
 ⟨some 17, .bin .eql (.tmp 15) (.tmp 16), none⟩])
 (.cond (.tmp 17)
 (.seq (.ops [⟨some 18, .move (.tmp 5), none⟩,
 ⟨some 4, .move (.tmp 18), none⟩])
 (.ret))
 (.skip))))
 (.ops [⟨some 10, .move (.tmp 5), none⟩,
 ⟨some 11, .bin .add (.tmp 10) (.const (.int .i64 1)), none⟩,
 ⟨some 5, .move (.tmp 11), none⟩]))))))
 (.seq (.ops [⟨some 4, .move (.const (.int .i64 (-1))), none⟩])
 (.ret)))⟩
/-- hurdle/hurdleref23.Group -/
def c_hurdleref23_Group (F : Nat → FuncId) (Ty : Nat → TypeId) : IFunc := ⟨15, [.tmp 2],
 .seq (.ops [⟨some 2, .move (.const (.bool false)), none⟩])
 (.seq (.ops [⟨some 3, .move (.tmp 0), none⟩,
 ⟨some 4, .lenSl (.tmp 3), none⟩,
 ⟨some 5, .bin .geq (.tmp 4) (.const (.int .i64 2)), none⟩,
 ⟨some 6, .move (.tmp 5), none⟩,
 ⟨some 7, .move (.tmp 0), some (6, true)⟩,
 ⟨some 8, .lenSl (.tmp 7), some (6, true)⟩,
 ⟨some 9, .bin .leq (.tmp 8) (.const (.int .i64 8)), some (6, true)⟩,
 ⟨some 10, .pick (.tmp 6) (.tmp 9) (.const (.bool false)), none⟩,
 ⟨some 11, .move (.tmp 10), none⟩,
 ⟨some 12, .move (.tmp 0), some (11, true)⟩,
 ⟨some 13, .call (F 115) [.tmp 12], some (11, true)⟩,
 ⟨some 14, .pick (.tmp 11) (.tmp 13) (.const (.bool false)), none⟩,
 ⟨some 2, .move (.tmp 14), none⟩])
 (.ret))⟩
/-- hurdle/hurdleref23.Fail -/
def c_hurdleref23_Fail (F : Nat → FuncId) (Ty : Nat → TypeId) : IFunc := ⟨38, [.cellN 6 6, .tmp 7],
 .seq (.ops [⟨some 3, .box (.tmp 0), none⟩,
 ⟨some 6, .alloc [.slice none 0 0, .slice none 0 0, .int .i64 0, .int .i64 0, .bool false, .int .i64 0], none⟩,
 ⟨some 7, .move (.const (.int .i64 0)), none⟩])
 (.seq (.ops [⟨some 9, .fieldAddr 0 (.tmp 3), none⟩,
 ⟨some 10, .load1 (.tmp 9), none⟩,
 ⟨some 11, .move (.tmp 1), none⟩,
 ⟨some 12, .call (F 117) [.tmp 10, .tmp 11], none⟩,
 ⟨some 8, .move (.tmp 12), none⟩])
 (.seq (.block 0 (.seq (.ops [⟨some 14, .move (.tmp 8), none⟩,
 ⟨some 15, .bin .lss (.tmp 14) (.const (.int .i64 0)), none⟩,
 ⟨some 13, .move (.tmp 15), none⟩])
 (.cond (.tmp 13)
 (.seq (.ops [⟨some 16, .loadN 6 (.tmp 3), none⟩,
 ⟨none, .store 6 (.tmp 6) (.tmp 16), none⟩,
 ⟨some 7, .move (.const (.int .i64 7)), none⟩])
 (.ret))
 (.seq (.ops [⟨some 18, .fieldAddr 3 (.tmp 3), none⟩,
 ⟨some 19, .load1 (.tmp 18), none⟩,
 ⟨some 20, .bin .geq (.tmp 19) (.const (.int .i64 0)), none⟩,
 ⟨some 17, .move (.tmp 20), none⟩])
 (.cond (.tmp 17)
 (.seq (.ops [⟨some 21, .loadN 6 (.tmp 3), none⟩,
 ⟨none, .store 6 (.tmp 6) (.tmp 21), none⟩,
 ⟨some 7, .move (.const (.int .i64 9)), none⟩])
 (.ret))
 (.seq (.ops [⟨some 23, .move (.tmp 2), none⟩,
 ⟨some 24, .fieldAddr 2 (.tmp 3), none⟩,
 ⟨some 25, .load1 (.tmp 24), none⟩,
 ⟨some 26, .bin .neq (.tmp 23) (.tmp 25), none⟩,
 ⟨some 22, .move (.tmp 26), none⟩])
 (.cond (.tmp 22)
 (.seq (.ops [⟨some 27, .loadN 6 (.tmp 3), none⟩,
 ⟨none, .store 6 (.tmp 6) (.tmp 27), none⟩,
 ⟨some 7, .move (.const (.int .i64 10)), none⟩])
 (.ret))
 (.skip))))))))
 (.seq (.ops [⟨some 28, .move (.tmp 8), none⟩,
 ⟨some 29, .fieldAddr 3 (.tmp 3), none⟩,
 ⟨none, .store 1 (.tmp 29) (.tmp 28), none⟩])
 (.seq (.ops [⟨some 30, .move (.tmp 1), none⟩,
 ⟨some 31, .fieldAddr 5 (.tmp 3), none⟩,
 ⟨none, .store 1 (.tmp 31) (.tmp 30), none⟩])
 (.seq (.ops [⟨some 32, .fieldAddr 4 (.tmp 3), none⟩,
 ⟨none, .store 1 (.tmp 32) (.const (.bool false)), none⟩])
 (.seq (.ops [⟨some 33, .fieldAddr 2 (.tmp 3), none⟩,
 ⟨some 34, .load1 (.tmp 33), none⟩,
 ⟨some 35, .bin .add (.tmp 34) (.const (.int .i64 1)), none⟩,
 ⟨some 36, .fieldAddr 2 (.tmp 3), none⟩,
 ⟨none, .store 1 (.tmp 36) (.tmp 35), none⟩])
 (.seq (.ops [⟨some 37, .loadN 6 (.tmp 3), none⟩,
 ⟨none, .store 6 (.tmp 6) (.tmp 37), none⟩,
 ⟨some 7, .move (.const (.int .i64 0)), none⟩])
 (.ret))))))))⟩
/-- hurdle/hurdleref23.Swap -/
def c_hurdleref23_Swap (F : Nat → FuncId) (Ty : Nat → TypeId) : IFunc := ⟨56, [.cellN 4 6, .tmp 5, .tmp 6],
 .seq (.ops [⟨some 2, .box (.tmp 0), none⟩,
 ⟨some 4, .alloc [.slice none 0 0, .slice none 0 0, .int .i64 0, .int .i64 0, .bool false, .int .i64 0], none⟩,
 ⟨some 5, .move (.const (.int .i64 0)), none⟩,
 ⟨some 6, .move (.const (.int .i64 0)), none⟩])
 (.seq (.block 0 (.seq (.ops [⟨some 10, .fieldAddr 1 (.tmp 2), none⟩,
 ⟨some 11, .load1 (.tmp 10), none⟩,
 ⟨some 12, .lenSl (.tmp 11), none⟩,
 ⟨some 13, .bin .eql (.tmp 12) (.const (.int .i64 0)), none⟩,
 ⟨some 9, .move (.tmp 13), none⟩])
 (.cond (.tmp 9)
 (.seq (.ops [⟨some 14, .loadN 6 (.tmp 2), none⟩,
 ⟨none, .store 6 (.tmp 4) (.tmp 14), none⟩,
 ⟨some 5, .move (.const (.int .i64 0)), none⟩,
 ⟨some 6, .move (.const (.int .i64 7)), none⟩])
 (.ret))
 (.seq (.ops [⟨some 16, .move (.tmp 1), none⟩,
 ⟨some 17, .fieldAddr 2 (.tmp 2), none⟩,
 ⟨some 18, .load1 (.tmp 17), none⟩,
 ⟨some 19, .bin .neq (.tmp 16) (.tmp 18), none⟩,
 ⟨some 15, .move (.tmp 19), none⟩])
 (.cond (.tmp 15)
 (.seq (.ops [⟨some 20, .loadN 6 (.tmp 2), none⟩,
 ⟨none, .store 6 (.tmp 4) (.tmp 20), none⟩,
 ⟨some 5, .move (.const (.int .i64 0)), none⟩,
 ⟨some 6, .move (.const (.int .i64 10)), none⟩])
 (.ret))
 (.seq (.ops [⟨some 22, .fieldAddr 3 (.tmp 2), none⟩,
 ⟨some 23, .load1 (.tmp 22), none⟩,
 ⟨some 24, .bin .lss (.tmp 23) (.const (.int .i64 0)), none⟩,
 ⟨some 25, .move (.tmp 24), none⟩,
 ⟨some 26, .fieldAddr 4 (.tmp 2), some (25, false)⟩,
 ⟨some 27, .load1 (.tmp 26), some (25, false)⟩,
 ⟨some 28, .pick (.tmp 25) (.const (.bool true)) (.tmp 27), none⟩,
 ⟨some 21, .move (.tmp 28), none⟩])
 (.cond (.tmp 21)
 (.seq (.ops [⟨some 29, .loadN 6 (.tmp 2), none⟩,
 ⟨none, .store 6 (.tmp 4) (.tmp 29), none⟩,
 ⟨some 5, .move (.const (.int .i64 0)), none⟩,
 ⟨some 6, .move (.const (.int .i64 16)), none⟩])
 (.ret))
 (.skip))))))))
 (.seq (.ops [⟨some 30, .fieldAddr 1 (.tmp 2), none⟩,
 ⟨some 31, .load1 (.tmp 30), none⟩,
 ⟨some 32, .idxSl 1 (.tmp 31) (.const (.int .i64 0)), none⟩,
 ⟨some 33, .load1 (.tmp 32), none⟩,
 ⟨some 7, .move (.tmp 33), none⟩])
 (.seq (.ops [⟨some 34, .fieldAddr 0 (.tmp 2), none⟩,
 ⟨some 35, .load1 (.tmp 34), none⟩,
 ⟨some 36, .append 1 8 (.const (.slice none 0 0)) (.tmp 35), none⟩,
 ⟨some 8, .move (.tmp 36), none⟩])
 (.seq (.ops [⟨some 37, .move (.tmp 8), none⟩,
 ⟨some 38, .fieldAddr 3 (.tmp 2), none⟩,
 ⟨some 39, .load1 (.tmp 38), none⟩,
 ⟨some 40, .move (.tmp 7), none⟩,
 ⟨some 41, .idxSl 1 (.tmp 37) (.tmp 39), none⟩,
 ⟨none, .store 1 (.tmp 41) (.tmp 40), none⟩])
 (.seq (.ops [⟨some 42, .move (.tmp 8), none⟩,
 ⟨some 43, .fieldAddr 0 (.tmp 2), none⟩,
 ⟨none, .store 1 (.tmp 43) (.tmp 42), none⟩])
 (.seq (.ops [⟨some 44, .fieldAddr 1 (.tmp 2), none⟩,
 ⟨some 45, .load1 (.tmp 44), none⟩,
 ⟨some 46, .sliceSl 1 (.tmp 45) (some (.const (.int .i64 1))) none none, none⟩,
 ⟨some 47, .append 1 8 (.const (.slice none 0 0)) (.tmp 46), none⟩,
 ⟨some 48, .fieldAddr 1 (.tmp 2), none⟩,
 ⟨none, .store 1 (.tmp 48) (.tmp 47), none⟩])
 (.seq (.ops [⟨some 49, .fieldAddr 4 (.tmp 2), none⟩,
 ⟨none, .store 1 (.tmp 49) (.const (.bool true)), none⟩])
 (.seq (.ops [⟨some 50, .fieldAddr 2 (.tmp 2), none⟩,
 ⟨some 51, .load1 (.tmp 50), none⟩,
 ⟨some 52, .bin .add (.tmp 51) (.const (.int .i64 1)), none⟩,
 ⟨some 53, .fieldAddr 2 (.tmp 2), none⟩,
 ⟨none, .store 1 (.tmp 53) (.tmp 52), none⟩])
 (.seq (.ops [⟨some 54, .loadN 6 (.tmp 2), none⟩,
 ⟨some 55, .move (.tmp 7), none⟩,
 ⟨none, .store 6 (.tmp 4) (.tmp 54), none⟩,
 ⟨some 5, .move (.tmp 55), none⟩,
 ⟨some 6, .move (.const (.int .i64 0)), none⟩])
 (.ret))))))))))⟩
/-- hurdle/hurdleref23.Done -/
def c_hurdleref23_Done (F : Nat → FuncId) (Ty : Nat → TypeId) : IFunc := ⟨30, [.cellN 4 6, .tmp 5],
 .seq (.ops [⟨some 2, .box (.tmp 0), none⟩,
 ⟨some 4, .alloc [.slice none 0 0, .slice none 0 0, .int .i64 0, .int .i64 0, .bool false, .int .i64 0], none⟩,
 ⟨some 5, .move (.const (.int .i64 0)), none⟩])
 (.seq (.block 0 (.seq (.ops [⟨some 7, .move (.tmp 1), none⟩,
 ⟨some 8, .fieldAddr 2 (.tmp 2), none⟩,
 ⟨some 9, .load1 (.tmp 8), none⟩,
 ⟨some 10, .bin .neq (.tmp 7) (.tmp 9), none⟩,
 ⟨some 6, .move (.tmp 10), none⟩])
 (.cond (.tmp 6)
 (.seq (.ops [⟨some 11, .loadN 6 (.tmp 2), none⟩,
 ⟨none, .store 6 (.tmp 4) (.tmp 11), none⟩,
 ⟨some 5, .move (.const (.int .i64 10)), none⟩])
 (.ret))
 (.seq (.ops [⟨some 13, .fieldAddr 3 (.tmp 2), none⟩,
 ⟨some 14, .load1 (.tmp 13), none⟩,
 ⟨some 15, .bin .lss (.tmp 14) (.const (.int .i64 0)), none⟩,
 ⟨some 16, .move (.tmp 15), none⟩,
 ⟨some 17, .fieldAddr 4 (.tmp 2), some (16, false)⟩,
 ⟨some 18, .load1 (.tmp 17), some (16, false)⟩,
 ⟨some 19, .un .not (.tmp 18), some (16, false)⟩,
 ⟨some 20, .pick (.tmp 16) (.const (.bool true)) (.tmp 19), none⟩,
 ⟨some 12, .move (.tmp 20), none⟩])
 (.cond (.tmp 12)
 (.seq (.ops [⟨some 21, .loadN 6 (.tmp 2), none⟩,
 ⟨none, .store 6 (.tmp 4) (.tmp 21), none⟩,
 ⟨some 5, .move (.const (.int .i64 16)), none⟩])
 (.ret))
 (.skip))))))
 (.seq (.ops [⟨some 22, .fieldAddr 3 (.tmp 2), none⟩,
 ⟨none, .store 1 (.tmp 22) (.const (.int .i64 (-1))), none⟩])
 (.seq (.ops [⟨some 23, .fieldAddr 5 (.tmp 2), none⟩,
 ⟨none, .store 1 (.tmp 23) (.const (.int .i64 (-1))), none⟩])
 (.seq (.ops [⟨some 24, .fieldAddr 4 (.tmp 2), none⟩,
 ⟨none, .store 1 (.tmp 24) (.const (.bool false)), none⟩])
 (.seq (.ops [⟨some 25, .fieldAddr 2 (.tmp 2), none⟩,
 ⟨some 26, .load1 (.tmp 25), none⟩,
 ⟨some 27, .bin .add (.tmp 26) (.const (.int .i64 1)), none⟩,
 ⟨some 28, .fieldAddr 2 (.tmp 2), none⟩,
 ⟨none, .store 1 (.tmp 28) (.tmp 27), none⟩])
 (.seq (.ops [⟨some 29, .loadN 6 (.tmp 2), none⟩,
 ⟨none, .store 6 (.tmp 4) (.tmp 29), none⟩,
 ⟨some 5, .move (.const (.int .i64 0)), none⟩])
 (.ret)))))))⟩
/-- hurdle/hurdleref23.Add -/
def c_hurdleref23_Add (F : Nat → FuncId) (Ty : Nat → TypeId) : IFunc := ⟨40, [.cellN 4 6, .tmp 5],
 .seq (.ops [⟨some 2, .box (.tmp 0), none⟩,
 ⟨some 4, .alloc [.slice none 0 0, .slice none 0 0, .int .i64 0, .int .i64 0, .bool false, .int .i64 0], none⟩,
 ⟨some 5, .move (.const (.int .i64 0)), none⟩])
 (.seq (.seq (.ops [⟨some 6, .move (.tmp 1), none⟩,
 ⟨some 7, .bin .lss (.tmp 6) (.const (.int .i64 0)), none⟩,
 ⟨some 8, .move (.tmp 7), none⟩,
 ⟨some 9, .move (.tmp 1), some (8, false)⟩,
 ⟨some 10, .bin .gtr (.tmp 9) (.const (.int .i64 63)), some (8, false)⟩,
 ⟨some 11, .pick (.tmp 8) (.const (.bool true)) (.tmp 10), none⟩])
 (.cond (.tmp 11)
 (.seq (.ops [⟨some 12, .loadN 6 (.tmp 2), none⟩,
 ⟨none, .store 6 (.tmp 4) (.tmp 12), none⟩,
 ⟨some 5, .move (.const (.int .i64 1)), none⟩])
 (.ret))
 (.skip)))
 (.seq (.seq (.ops [⟨some 13, .fieldAddr 0 (.tmp 2), none⟩,
 ⟨some 14, .load1 (.tmp 13), none⟩,
 ⟨some 15, .move (.tmp 1), none⟩,
 ⟨some 16, .call (F 117) [.tmp 14, .tmp 15], none⟩,
 ⟨some 17, .bin .geq (.tmp 16) (.const (.int .i64 0)), none⟩,
 ⟨some 18, .move (.tmp 17), none⟩,
 ⟨some 19, .fieldAddr 1 (.tmp 2), some (18, false)⟩,
 ⟨some 20, .load1 (.tmp 19), some (18, false)⟩,
 ⟨some 21, .move (.tmp 1), some (18, false)⟩,
 ⟨some 22, .call (F 117) [.tmp 20, .tmp 21], some (18, false)⟩,
 ⟨some 23, .bin .geq (.tmp 22) (.const (.int .i64 0)), some (18, false)⟩,
 ⟨some 24, .pick (.tmp 18) (.const (.bool true)) (.tmp 23), none⟩,
 ⟨some 25, .move (.tmp 24), none⟩,
 ⟨some 26, .move (.tmp 1), some (25, false)⟩,
 ⟨some 27, .fieldAddr 5 (.tmp 2), some (25, false)⟩,
 ⟨some 28, .load1 (.tmp 27), some (25, false)⟩,
 ⟨some 29, .bin .eql (.tmp 26) (.tmp 28), some (25, false)⟩,
 ⟨some 30, .pick (.tmp 25) (.const (.bool true)) (.tmp 29), none⟩])
 (.cond (.tmp 30)
 (.seq (.ops [⟨some 31, .loadN 6 (.tmp 2), none⟩,
 ⟨none, .store 6 (.tmp 4) (.tmp 31), none⟩,
 ⟨some 5, .move (.const (.int .i64 6)), none⟩])
 (.ret))
 (.skip)))
 (.seq (.ops [⟨some 32, .fieldAddr 1 (.tmp 2), none⟩,
 ⟨some 33, .load1 (.tmp 32), none⟩,
 ⟨some 34, .append 1 8 (.const (.slice none 0 0)) (.tmp 33), none⟩,
 ⟨some 35, .move (.tmp 1), none⟩,
 ⟨some 36, .buildSlice 1 [.int .i64 0] [((0, 1), .tmp 35)], none⟩,
 ⟨some 37, .append 1 8 (.tmp 34) (.tmp 36), none⟩,
 ⟨some 38, .fieldAddr 1 (.tmp 2), none⟩,
 ⟨none, .store 1 (.tmp 38) (.tmp 37), none⟩])
 (.seq (.ops [⟨some 39, .loadN 6 (.tmp 2), none⟩,
 ⟨none, .store 6 (.tmp 4) (.tmp 39), none⟩,
 ⟨some 5, .move (.const (.int .i64 0)), none⟩])
 (.ret)))))⟩
/-- hurdle/hurdleref23.may -/
def c_hurdleref23_may (F : Nat → FuncId) (Ty : Nat → TypeId) : IFunc := ⟨88, [.tmp 2],
 .seq (.ops [⟨some 1, .box (.tmp 0), none⟩,
 ⟨some 2, .move (.const (.bool false)), none⟩])
 (.seq (.seq (.draw [(⟨some 3, .fieldAddr 0 (.tmp 1), none⟩, []),
 (⟨some 4, .load1 (.tmp 3), none⟩, []),
 (⟨some 5, .call (F 118) [.tmp 4], none⟩, []),
 (⟨some 6, .un .not (.tmp 5), none⟩, []),
 (⟨some 7, .move (.tmp 6), none⟩, []),
 (⟨some 8, .fieldAddr 1 (.tmp 1), some (7, false)⟩, []),
 (⟨some 9, .load1 (.tmp 8), some (7, false)⟩, []),
 (⟨some 10, .lenSl (.tmp 9), some (7, false)⟩, []),
 (⟨some 11, .bin .gtr (.tmp 10) (.const (.int .i64 64)), some (7, false)⟩, []),
 (⟨some 12, .pick (.tmp 7) (.const (.bool true)) (.tmp 11), none⟩, []),
 (⟨some 13, .move (.tmp 12), none⟩, []),
 (⟨some 14, .fieldAddr 0 (.tmp 1), some (13, false)⟩, []),
 (⟨some 15, .load1 (.tmp 14), some (13, false)⟩, []),
 (⟨some 17, .fieldAddr 1 (.tmp 1), some (13, false)⟩, []),
 (⟨some 18, .load1 (.tmp 17), some (13, false)⟩, []),
 (⟨some 16, .append 1 8 (.const (.slice none 0 0)) (.tmp 15), some (13, false)⟩, [⟨some 18, .load1 (.tmp 17), some (13, false)⟩]),
 (⟨some 19, .append 1 8 (.tmp 16) (.tmp 18), some (13, false)⟩, []),
 (⟨some 20, .call (F 115) [.tmp 19], some (13, false)⟩, []),
 (⟨some 21, .un .not (.tmp 20), some (13, false)⟩, []),
 (⟨some 22, .pick (.tmp 13) (.const (.bool true)) (.tmp 21), none⟩, []),
 (⟨some 23, .move (.tmp 22), none⟩, []),
 (⟨some 24, .fieldAddr 2 (.tmp 1), some (23, false)⟩, []),
 (⟨some 25, .load1 (.tmp 24), some (23, false)⟩, []),
 (⟨some 26, .bin .lss (.tmp 25) (.const (.int .i64 1)), some (23, false)⟩, []),
 (⟨some 27, .pick (.tmp 23) (.const (.bool true)) (.tmp 26), none⟩, []),
 (⟨some 28, .move (.tmp 27), none⟩, []),
 (⟨some 29, .fieldAddr 3 (.tmp 1), some (28, false)⟩, []),
 (⟨some 30, .load1 (.tmp 29), some (28, false)⟩, []),
 (⟨some 31, .bin .lss (.tmp 30) (.const (.int .i64 (-1))), some (28, false)⟩, []),
 (⟨some 32, .pick (.tmp 28) (.const (.bool true)) (.tmp 31), none⟩, []),
 (⟨some 33, .move (.tmp 32), none⟩, []),
 (⟨some 34, .fieldAddr 3 (.tmp 1), some (33, false)⟩, []),
 (⟨some 35, .load1 (.tmp 34), some (33, false)⟩, []),
 (⟨some 36, .fieldAddr 0 (.tmp 1), some (33, false)⟩, []),
 (⟨some 37, .load1 (.tmp 36), some (33, false)⟩, []),
 (⟨some 38, .lenSl (.tmp 37), some (33, false)⟩, []),
 (⟨some 39, .bin .geq (.tmp 35) (.tmp 38), some (33, false)⟩, []),
 (⟨some 40, .pick (.tmp 33) (.const (.bool true)) (.tmp 39), none⟩, [])])
 (.cond (.tmp 40)
 (.seq (.ops [⟨some 2, .move (.const (.bool false)), none⟩])
 (.ret))
 (.skip)))
 (.seq (.seq (.ops [⟨some 41, .fieldAddr 3 (.tmp 1), none⟩,
 ⟨some 42, .load1 (.tmp 41), none⟩,
 ⟨some 43, .bin .lss (.tmp 42) (.const (.int .i64 0)), none⟩])
 (.cond (.tmp 43)
 (.seq (.ops [⟨some 44, .fieldAddr 4 (.tmp 1), none⟩,
 ⟨some 45, .load1 (.tmp 44), none⟩,
 ⟨some 46, .un .not (.tmp 45), none⟩,
 ⟨some 47, .move (.tmp 46), none⟩,
 ⟨some 48, .fieldAddr 5 (.tmp 1), some (47, true)⟩,
 ⟨some 49, .load1 (.tmp 48), some (47, true)⟩,
 ⟨some 50, .bin .eql (.tmp 49) (.const (.int .i64 (-1))), some (47, true)⟩,
 ⟨some 51, .pick (.tmp 47) (.tmp 50) (.const (.bool false)), none⟩,
 ⟨some 2, .move (.tmp 51), none⟩])
 (.ret))
 (.skip)))
 (.seq (.seq (.ops [⟨some 52, .fieldAddr 4 (.tmp 1), none⟩,
 ⟨some 53, .load1 (.tmp 52), none⟩,
 ⟨some 54, .un .not (.tmp 53), none⟩])
 (.cond (.tmp 54)
 (.seq (.draw [(⟨some 55, .fieldAddr 5 (.tmp 1), none⟩, []),
 (⟨some 56, .load1 (.tmp 55), none⟩, []),
 (⟨some 57, .fieldAddr 0 (.tmp 1), none⟩, []),
 (⟨some 58, .load1 (.tmp 57), none⟩, []),
 (⟨some 59, .fieldAddr 3 (.tmp 1), none⟩, []),
 (⟨some 60, .load1 (.tmp 59), none⟩, []),
 (⟨some 61, .idxSl 1 (.tmp 58) (.tmp 60), none⟩, []),
 (⟨some 62, .load1 (.tmp 61), none⟩, []),
 (⟨some 63, .bin .eql (.tmp 56) (.tmp 62), none⟩, []),
 (⟨some 2, .move (.tmp 63), none⟩, [])])
 (.ret))
 (.skip)))
 (.seq (.ops [⟨some 64, .fieldAddr 5 (.tmp 1), none⟩,
 ⟨some 65, .load1 (.tmp 64), none⟩,
 ⟨some 66, .bin .geq (.tmp 65) (.const (.int .i64 0)), none⟩,
 ⟨some 67, .move (.tmp 66), none⟩,
 ⟨some 68, .fieldAddr 5 (.tmp 1), some (67, true)⟩,
 ⟨some 69, .load1 (.tmp 68), some (67, true)⟩,
 ⟨some 70, .bin .leq (.tmp 69) (.const (.int .i64 63)), some (67, true)⟩,
 ⟨some 71, .pick (.tmp 67) (.tmp 70) (.const (.bool false)), none⟩,
 ⟨some 72, .move (.tmp 71), none⟩,
 ⟨some 73, .fieldAddr 0 (.tmp 1), some (72, true)⟩,
 ⟨some 74, .load1 (.tmp 73), some (72, true)⟩,
 ⟨some 75, .fieldAddr 5 (.tmp 1), some (72, true)⟩,
 ⟨some 76, .load1 (.tmp 75), some (72, true)⟩,
 ⟨some 77, .call (F 117) [.tmp 74, .tmp 76], some (72, true)⟩,
 ⟨some 78, .bin .lss (.tmp 77) (.const (.int .i64 0)), some (72, true)⟩,
 ⟨some 79, .pick (.tmp 72) (.tmp 78) (.const (.bool false)), none⟩,
 ⟨some 80, .move (.tmp 79), none⟩,
 ⟨some 81, .fieldAddr 1 (.tmp 1), some (80, true)⟩,
 ⟨some 82, .load1 (.tmp 81), some (80, true)⟩,
 ⟨some 83, .fieldAddr 5 (.tmp 1), some (80, true)⟩,
 ⟨some 84, .load1 (.tmp 83), some (80, true)⟩,
 ⟨some 85, .call (F 117) [.tmp 82, .tmp 84], some (80, true)⟩,
 ⟨some 86, .bin .lss (.tmp 85) (.const (.int .i64 0)), some (80, true)⟩,
 ⟨some 87, .pick (.tmp 80) (.tmp 86) (.const (.bool false)), none⟩,
 ⟨some 2, .move (.tmp 87), none⟩])
 (.ret)))))⟩
/-- A context has these functions. -/
structure HasRef23 (c : Ctx) : Prop where
 hurdleref23_New : c.IP (c.F 113) = some (c_hurdleref23_New c.F c.Ty)
 hurdleref23_Text : c.IP (c.F 114) = some (c_hurdleref23_Text c.F c.Ty)
 hurdleref23_Apart : c.IP (c.F 115) = some (c_hurdleref23_Apart c.F c.Ty)
 hurdleref23_Read : c.IP (c.F 116) = some (c_hurdleref23_Read c.F c.Ty)
 hurdleref23_At : c.IP (c.F 117) = some (c_hurdleref23_At c.F c.Ty)
 hurdleref23_Group : c.IP (c.F 118) = some (c_hurdleref23_Group c.F c.Ty)
 hurdleref23_Fail : c.IP (c.F 119) = some (c_hurdleref23_Fail c.F c.Ty)
 hurdleref23_Swap : c.IP (c.F 120) = some (c_hurdleref23_Swap c.F c.Ty)
 hurdleref23_Done : c.IP (c.F 121) = some (c_hurdleref23_Done c.F c.Ty)
 hurdleref23_Add : c.IP (c.F 122) = some (c_hurdleref23_Add c.F c.Ty)
 hurdleref23_may : c.IP (c.F 123) = some (c_hurdleref23_may c.F c.Ty)

end Go.Proofs.YtkphglpmhebglaaI
