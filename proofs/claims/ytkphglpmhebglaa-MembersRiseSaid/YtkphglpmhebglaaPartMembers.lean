/- PRINTED by gen.py (this session's own): the intermediate form of some functions, and a context's having them. -/
import Derived.Test.YtkphglpmhebglaaPartRef01X
namespace Go.Proofs.YtkphglpmhebglaaI
set_option linter.unusedSimpArgs false
set_option linter.unusedVariables false
open Go

/-- hurdle/members.New -/
abbrev n_members_New : Nat := 97
/-- (*hurdle/members.Members).Epoch -/
abbrev n_members_Members_Epoch : Nat := 98
/-- (*hurdle/members.Members).Hole -/
abbrev n_members_Members_Hole : Nat := 99
/-- (*hurdle/members.Members).Servers -/
abbrev n_members_Members_Servers : Nat := 100
/-- (*hurdle/members.Members).Spares -/
abbrev n_members_Members_Spares : Nat := 101
/-- (*hurdle/members.Members).Text -/
abbrev n_members_Members_Text : Nat := 102
/-- (*hurdle/members.Members).Fail -/
abbrev n_members_Members_Fail : Nat := 103
/-- (*hurdle/members.Members).Swap -/
abbrev n_members_Members_Swap : Nat := 104
/-- (*hurdle/members.Members).Done -/
abbrev n_members_Members_Done : Nat := 105
/-- (*hurdle/members.Members).Add -/
abbrev n_members_Members_Add : Nat := 106
/-- hurdle/members.Read -/
abbrev n_members_Read : Nat := 107
/-- hurdle/members.group -/
abbrev n_members_group : Nat := 108
/-- hurdle/members.list -/
abbrev n_members_list : Nat := 109
/-- slices.Index[[]int,int] -/
abbrev n_slices_Index_int_int : Nat := 110
/-- hurdle/members.apart -/
abbrev n_members_apart : Nat := 111
/-- (*hurdle/members.Members).right -/
abbrev n_members_Members_right : Nat := 112
/-- hurdle/members.New -/
def c_members_New (F : Nat → FuncId) (Ty : Nat → TypeId) : IFunc := ⟨15, [.tmp 4],
 .seq (.ops [⟨some 4, .move (.const (.pointer none)), none⟩])
 (.seq (.seq (.ops [⟨some 5, .move (.tmp 0), none⟩,
 ⟨some 6, .move (.tmp 1), none⟩,
 ⟨some 7, .call (F 108) [.tmp 5, .tmp 6], none⟩,
 ⟨some 8, .un .not (.tmp 7), none⟩])
 (.cond (.tmp 8)
 (.seq (.ops [⟨some 4, .move (.const (.pointer none)), none⟩])
 (.ret))
 (.skip)))
 (.seq (.ops [⟨some 9, .move (.tmp 0), none⟩,
 ⟨some 10, .call (F 109) [.tmp 9], none⟩,
 ⟨some 11, .move (.tmp 1), none⟩,
 ⟨some 12, .call (F 109) [.tmp 11], none⟩,
 ⟨some 13, .build [.slice none 0 0, .slice none 0 0, .int .i64 0, .int .i64 0, .bool false, .int .i64 0] [((0, 1), .tmp 10), ((1, 1), .tmp 12), ((2, 1), .const (.int .i64 1)), ((3, 1), .const (.int .i64 (-1))), ((5, 1), .const (.int .i64 (-1)))], none⟩,
 ⟨some 14, .box (.tmp 13), none⟩,
 ⟨some 4, .move (.tmp 14), none⟩])
 (.ret)))⟩
/-- (*hurdle/members.Members).Epoch -/
def c_members_Members_Epoch (F : Nat → FuncId) (Ty : Nat → TypeId) : IFunc := ⟨9, [.tmp 2],
 .seq (.ops [⟨some 2, .move (.const (.int .i64 0)), none⟩])
 (.seq (.seq (.ops [⟨some 3, .move (.tmp 0), none⟩,
 ⟨some 4, .eqNil 0 false (.tmp 3), none⟩])
 (.cond (.tmp 4)
 (.seq (.ops [⟨some 2, .move (.const (.int .i64 0)), none⟩])
 (.ret))
 (.skip)))
 (.seq (.ops [⟨some 5, .move (.tmp 0), none⟩,
 ⟨some 6, .nilCheck (.tmp 5), none⟩,
 ⟨some 7, .fieldAddr 2 (.tmp 6), none⟩,
 ⟨some 8, .load1 (.tmp 7), none⟩,
 ⟨some 2, .move (.tmp 8), none⟩])
 (.ret)))⟩
/-- (*hurdle/members.Members).Hole -/
def c_members_Members_Hole (F : Nat → FuncId) (Ty : Nat → TypeId) : IFunc := ⟨9, [.tmp 2],
 .seq (.ops [⟨some 2, .move (.const (.int .i64 0)), none⟩])
 (.seq (.seq (.ops [⟨some 3, .move (.tmp 0), none⟩,
 ⟨some 4, .eqNil 0 false (.tmp 3), none⟩])
 (.cond (.tmp 4)
 (.seq (.ops [⟨some 2, .move (.const (.int .i64 (-1))), none⟩])
 (.ret))
 (.skip)))
 (.seq (.ops [⟨some 5, .move (.tmp 0), none⟩,
 ⟨some 6, .nilCheck (.tmp 5), none⟩,
 ⟨some 7, .fieldAddr 3 (.tmp 6), none⟩,
 ⟨some 8, .load1 (.tmp 7), none⟩,
 ⟨some 2, .move (.tmp 8), none⟩])
 (.ret)))⟩
/-- (*hurdle/members.Members).Servers -/
def c_members_Members_Servers (F : Nat → FuncId) (Ty : Nat → TypeId) : IFunc := ⟨10, [.tmp 2],
 .seq (.ops [⟨some 2, .move (.const (.slice none 0 0)), none⟩])
 (.seq (.seq (.ops [⟨some 3, .move (.tmp 0), none⟩,
 ⟨some 4, .eqNil 0 false (.tmp 3), none⟩])
 (.cond (.tmp 4)
 (.seq (.ops [⟨some 2, .move (.const (.slice none 0 0)), none⟩])
 (.ret))
 (.skip)))
 (.seq (.ops [⟨some 5, .move (.tmp 0), none⟩,
 ⟨some 6, .nilCheck (.tmp 5), none⟩,
 ⟨some 7, .fieldAddr 0 (.tmp 6), none⟩,
 ⟨some 8, .load1 (.tmp 7), none⟩,
 ⟨some 9, .call (F 109) [.tmp 8], none⟩,
 ⟨some 2, .move (.tmp 9), none⟩])
 (.ret)))⟩
/-- (*hurdle/members.Members).Spares -/
def c_members_Members_Spares (F : Nat → FuncId) (Ty : Nat → TypeId) : IFunc := ⟨10, [.tmp 2],
 .seq (.ops [⟨some 2, .move (.const (.slice none 0 0)), none⟩])
 (.seq (.seq (.ops [⟨some 3, .move (.tmp 0), none⟩,
 ⟨some 4, .eqNil 0 false (.tmp 3), none⟩])
 (.cond (.tmp 4)
 (.seq (.ops [⟨some 2, .move (.const (.slice none 0 0)), none⟩])
 (.ret))
 (.skip)))
 (.seq (.ops [⟨some 5, .move (.tmp 0), none⟩,
 ⟨some 6, .nilCheck (.tmp 5), none⟩,
 ⟨some 7, .fieldAddr 1 (.tmp 6), none⟩,
 ⟨some 8, .load1 (.tmp 7), none⟩,
 ⟨some 9, .call (F 109) [.tmp 8], none⟩,
 ⟨some 2, .move (.tmp 9), none⟩])
 (.ret)))⟩
/-- (*hurdle/members.Members).Text -/
def c_members_Members_Text (F : Nat → FuncId) (Ty : Nat → TypeId) : IFunc := ⟨53, [.tmp 2],
 .seq (.ops [⟨some 2, .move (.const (.string ⟨#[]⟩)), none⟩])
 (.seq (.seq (.ops [⟨some 7, .move (.tmp 0), none⟩,
 ⟨some 8, .eqNil 0 false (.tmp 7), none⟩])
 (.cond (.tmp 8)
 (.seq (.ops [⟨some 2, .move (.const (.string ⟨#[]⟩)), none⟩])
 (.ret))
 (.skip)))
 (.seq (.ops [⟨some 3, .move (.const (.int .i64 0)), none⟩])
 (.seq (.seq (.ops [⟨some 9, .move (.tmp 0), none⟩,
 ⟨some 10, .nilCheck (.tmp 9), none⟩,
 ⟨some 11, .fieldAddr 4 (.tmp 10), none⟩,
 ⟨some 12, .load1 (.tmp 11), none⟩])
 (.cond (.tmp 12)
 (.ops [⟨some 3, .move (.const (.int .i64 1)), none⟩])
 (.skip)))
 (.seq (.ops [⟨some 13, .call (F 31) [.const (.int .i64 65536)], none⟩,
 ⟨some 4, .move (.tmp 13), none⟩])
 (.seq (.ops [⟨some 14, .move (.tmp 4), none⟩,
 ⟨some 15, .move (.tmp 0), none⟩,
 ⟨some 16, .nilCheck (.tmp 15), none⟩,
 ⟨some 17, .fieldAddr 2 (.tmp 16), none⟩,
 ⟨some 18, .load1 (.tmp 17), none⟩,
 ⟨some 19, .call (F 34) [.tmp 14, .tmp 18], none⟩])
 (.seq (.ops [⟨some 20, .move (.tmp 4), none⟩,
 ⟨some 21, .move (.tmp 0), none⟩,
 ⟨some 22, .nilCheck (.tmp 21), none⟩,
 ⟨some 23, .fieldAddr 3 (.tmp 22), none⟩,
 ⟨some 24, .load1 (.tmp 23), none⟩,
 ⟨some 25, .call (F 34) [.tmp 20, .tmp 24], none⟩])
 (.seq (.ops [⟨some 26, .move (.tmp 4), none⟩,
 ⟨some 27, .move (.tmp 3), none⟩,
 ⟨some 28, .call (F 49) [.tmp 26, .tmp 27], none⟩])
 (.seq (.ops [⟨some 29, .move (.tmp 4), none⟩,
 ⟨some 30, .move (.tmp 0), none⟩,
 ⟨some 31, .nilCheck (.tmp 30), none⟩,
 ⟨some 32, .fieldAddr 5 (.tmp 31), none⟩,
 ⟨some 33, .load1 (.tmp 32), none⟩,
 ⟨some 34, .call (F 34) [.tmp 29, .tmp 33], none⟩])
 (.seq (.ops [⟨some 35, .move (.tmp 4), none⟩,
 ⟨some 36, .move (.tmp 0), none⟩,
 ⟨some 37, .nilCheck (.tmp 36), none⟩,
 ⟨some 38, .fieldAddr 0 (.tmp 37), none⟩,
 ⟨some 39, .load1 (.tmp 38), none⟩,
 ⟨some 40, .call (F 32) [.tmp 35, .tmp 39], none⟩])
 (.seq (.ops [⟨some 41, .move (.tmp 4), none⟩,
 ⟨some 42, .move (.tmp 0), none⟩,
 ⟨some 43, .nilCheck (.tmp 42), none⟩,
 ⟨some 44, .fieldAddr 1 (.tmp 43), none⟩,
 ⟨some 45, .load1 (.tmp 44), none⟩,
 ⟨some 46, .call (F 32) [.tmp 41, .tmp 45], none⟩])
 (.seq (.ops [⟨some 48, .move (.tmp 4), none⟩,
 ⟨some 49, .call (F 35) [.tmp 48], none⟩,
 ⟨some 47, .move (.tmp 49), none⟩,
 ⟨some 50, .extract (.tmp 47) 0, none⟩,
 ⟨some 51, .extract (.tmp 47) 1, none⟩,
 ⟨some 5, .move (.tmp 50), none⟩,
 ⟨some 6, .move (.tmp 51), none⟩])
 (.seq (.ops [⟨some 52, .move (.tmp 5), none⟩,
 ⟨some 2, .move (.tmp 52), none⟩])
 (.ret)))))))))))))⟩
/-- (*hurdle/members.Members).Fail -/
def c_members_Members_Fail (F : Nat → FuncId) (Ty : Nat → TypeId) : IFunc := ⟨50, [.tmp 6],
 .seq (.ops [⟨some 6, .move (.const (.int .i64 0)), none⟩])
 (.seq (.seq (.ops [⟨some 8, .move (.tmp 0), none⟩,
 ⟨some 9, .eqNil 0 false (.tmp 8), none⟩])
 (.cond (.tmp 9)
 (.seq (.ops [⟨some 6, .move (.const (.int .i64 1)), none⟩])
 (.ret))
 (.skip)))
 (.seq (.ops [⟨some 10, .move (.tmp 0), none⟩,
 ⟨some 11, .nilCheck (.tmp 10), none⟩,
 ⟨some 12, .fieldAddr 0 (.tmp 11), none⟩,
 ⟨some 13, .load1 (.tmp 12), none⟩,
 ⟨some 14, .move (.tmp 1), none⟩,
 ⟨some 15, .call (F 110) [.tmp 13, .tmp 14], none⟩,
 ⟨some 7, .move (.tmp 15), none⟩])
 (.seq (.block 0 (.seq (.ops [⟨some 17, .move (.tmp 7), none⟩,
 ⟨some 18, .bin .lss (.tmp 17) (.const (.int .i64 0)), none⟩,
 ⟨some 16, .move (.tmp 18), none⟩])
 (.cond (.tmp 16)
 (.seq (.ops [⟨some 6, .move (.const (.int .i64 7)), none⟩])
 (.ret))
 (.seq (.ops [⟨some 20, .move (.tmp 0), none⟩,
 ⟨some 21, .nilCheck (.tmp 20), none⟩,
 ⟨some 22, .fieldAddr 3 (.tmp 21), none⟩,
 ⟨some 23, .load1 (.tmp 22), none⟩,
 ⟨some 24, .bin .neq (.tmp 23) (.const (.int .i64 (-1))), none⟩,
 ⟨some 19, .move (.tmp 24), none⟩])
 (.cond (.tmp 19)
 (.seq (.ops [⟨some 6, .move (.const (.int .i64 9)), none⟩])
 (.ret))
 (.seq (.ops [⟨some 26, .move (.tmp 2), none⟩,
 ⟨some 27, .move (.tmp 0), none⟩,
 ⟨some 28, .nilCheck (.tmp 27), none⟩,
 ⟨some 29, .fieldAddr 2 (.tmp 28), none⟩,
 ⟨some 30, .load1 (.tmp 29), none⟩,
 ⟨some 31, .bin .neq (.tmp 26) (.tmp 30), none⟩,
 ⟨some 25, .move (.tmp 31), none⟩])
 (.cond (.tmp 25)
 (.seq (.ops [⟨some 6, .move (.const (.int .i64 10)), none⟩])
 (.ret))
 (.skip))))))))
 (.seq (.ops [⟨some 32, .move (.tmp 0), none⟩,
 ⟨some 33, .move (.tmp 0), none⟩,
 ⟨some 34, .move (.tmp 0), none⟩,
 ⟨some 35, .move (.tmp 7), none⟩,
 ⟨some 36, .move (.tmp 1), none⟩,
 ⟨some 37, .nilCheck (.tmp 32), none⟩,
 ⟨some 38, .fieldAddr 3 (.tmp 37), none⟩,
 ⟨none, .store 1 (.tmp 38) (.tmp 35), none⟩,
 ⟨some 39, .nilCheck (.tmp 33), none⟩,
 ⟨some 40, .fieldAddr 5 (.tmp 39), none⟩,
 ⟨none, .store 1 (.tmp 40) (.tmp 36), none⟩,
 ⟨some 41, .nilCheck (.tmp 34), none⟩,
 ⟨some 42, .fieldAddr 4 (.tmp 41), none⟩,
 ⟨none, .store 1 (.tmp 42) (.const (.bool false)), none⟩])
 (.seq (.ops [⟨some 43, .move (.tmp 0), none⟩,
 ⟨some 44, .nilCheck (.tmp 43), none⟩,
 ⟨some 45, .fieldAddr 2 (.tmp 44), none⟩,
 ⟨some 46, .load1 (.tmp 45), none⟩,
 ⟨some 47, .bin .add (.tmp 46) (.const (.int .i64 1)), none⟩,
 ⟨some 48, .nilCheck (.tmp 43), none⟩,
 ⟨some 49, .fieldAddr 2 (.tmp 48), none⟩,
 ⟨none, .store 1 (.tmp 49) (.tmp 47), none⟩])
 (.seq (.ops [⟨some 6, .move (.const (.int .i64 0)), none⟩])
 (.ret)))))))⟩
/-- (*hurdle/members.Members).Swap -/
def c_members_Members_Swap (F : Nat → FuncId) (Ty : Nat → TypeId) : IFunc := ⟨71, [.tmp 4, .tmp 5],
 .seq (.ops [⟨some 4, .move (.const (.int .i64 0)), none⟩,
 ⟨some 5, .move (.const (.int .i64 0)), none⟩])
 (.seq (.block 0 (.seq (.ops [⟨some 8, .move (.tmp 0), none⟩,
 ⟨some 9, .eqNil 0 false (.tmp 8), none⟩,
 ⟨some 7, .move (.tmp 9), none⟩])
 (.cond (.tmp 7)
 (.seq (.ops [⟨some 4, .move (.const (.int .i64 0)), none⟩,
 ⟨some 5, .move (.const (.int .i64 1)), none⟩])
 (.ret))
 (.seq (.ops [⟨some 11, .move (.tmp 0), none⟩,
 ⟨some 12, .nilCheck (.tmp 11), none⟩,
 ⟨some 13, .fieldAddr 1 (.tmp 12), none⟩,
 ⟨some 14, .load1 (.tmp 13), none⟩,
 ⟨some 15, .lenSl (.tmp 14), none⟩,
 ⟨some 16, .bin .eql (.tmp 15) (.const (.int .i64 0)), none⟩,
 ⟨some 10, .move (.tmp 16), none⟩])
 (.cond (.tmp 10)
 (.seq (.ops [⟨some 4, .move (.const (.int .i64 0)), none⟩,
 ⟨some 5, .move (.const (.int .i64 7)), none⟩])
 (.ret))
 (.seq (.ops [⟨some 18, .move (.tmp 1), none⟩,
 ⟨some 19, .move (.tmp 0), none⟩,
 ⟨some 20, .nilCheck (.tmp 19), none⟩,
 ⟨some 21, .fieldAddr 2 (.tmp 20), none⟩,
 ⟨some 22, .load1 (.tmp 21), none⟩,
 ⟨some 23, .bin .neq (.tmp 18) (.tmp 22), none⟩,
 ⟨some 17, .move (.tmp 23), none⟩])
 (.cond (.tmp 17)
 (.seq (.ops [⟨some 4, .move (.const (.int .i64 0)), none⟩,
 ⟨some 5, .move (.const (.int .i64 10)), none⟩])
 (.ret))
 (.seq (.ops [⟨some 25, .move (.tmp 0), none⟩,
 ⟨some 26, .nilCheck (.tmp 25), none⟩,
 ⟨some 27, .fieldAddr 3 (.tmp 26), none⟩,
 ⟨some 28, .load1 (.tmp 27), none⟩,
 ⟨some 29, .bin .eql (.tmp 28) (.const (.int .i64 (-1))), none⟩,
 ⟨some 30, .move (.tmp 29), none⟩,
 ⟨some 31, .move (.tmp 0), some (30, false)⟩,
 ⟨some 32, .nilCheck (.tmp 31), some (30, false)⟩,
 ⟨some 33, .fieldAddr 4 (.tmp 32), some (30, false)⟩,
 ⟨some 34, .load1 (.tmp 33), some (30, false)⟩,
 ⟨some 35, .pick (.tmp 30) (.const (.bool true)) (.tmp 34), none⟩,
 ⟨some 24, .move (.tmp 35), none⟩])
 (.cond (.tmp 24)
 (.seq (.ops [⟨some 4, .move (.const (.int .i64 0)), none⟩,
 ⟨some 5, .move (.const (.int .i64 16)), none⟩])
 (.ret))
 (.skip))))))))))
 (.seq (.ops [⟨some 36, .move (.tmp 0), none⟩,
 ⟨some 37, .nilCheck (.tmp 36), none⟩,
 ⟨some 38, .fieldAddr 1 (.tmp 37), none⟩,
 ⟨some 39, .load1 (.tmp 38), none⟩,
 ⟨some 40, .idxSl 1 (.tmp 39) (.const (.int .i64 0)), none⟩,
 ⟨some 41, .load1 (.tmp 40), none⟩,
 ⟨some 6, .move (.tmp 41), none⟩])
 (.seq (.ops [⟨some 42, .move (.tmp 0), none⟩,
 ⟨some 43, .move (.tmp 0), none⟩,
 ⟨some 44, .nilCheck (.tmp 43), none⟩,
 ⟨some 45, .fieldAddr 1 (.tmp 44), none⟩,
 ⟨some 46, .load1 (.tmp 45), none⟩,
 ⟨some 47, .sliceSl 1 (.tmp 46) (some (.const (.int .i64 1))) none none, none⟩,
 ⟨some 48, .nilCheck (.tmp 42), none⟩,
 ⟨some 49, .fieldAddr 1 (.tmp 48), none⟩,
 ⟨none, .store 1 (.tmp 49) (.tmp 47), none⟩])
 (.seq (.draw [(⟨some 50, .move (.tmp 0), none⟩, []),
 (⟨some 51, .nilCheck (.tmp 50), none⟩, []),
 (⟨some 52, .fieldAddr 0 (.tmp 51), none⟩, []),
 (⟨some 53, .load1 (.tmp 52), none⟩, []),
 (⟨some 54, .move (.tmp 0), none⟩, []),
 (⟨some 55, .nilCheck (.tmp 54), none⟩, []),
 (⟨some 56, .fieldAddr 3 (.tmp 55), none⟩, []),
 (⟨some 57, .load1 (.tmp 56), none⟩, []),
 (⟨some 58, .move (.tmp 0), none⟩, []),
 (⟨some 59, .move (.tmp 6), none⟩, []),
 (⟨some 60, .idxSl 1 (.tmp 53) (.tmp 57), none⟩, []),
 (⟨none, .store 1 (.tmp 60) (.tmp 59), none⟩, []),
 (⟨some 61, .nilCheck (.tmp 58), none⟩, []),
 (⟨some 62, .fieldAddr 4 (.tmp 61), none⟩, []),
 (⟨none, .store 1 (.tmp 62) (.const (.bool true)), none⟩, [])])
 (.seq (.ops [⟨some 63, .move (.tmp 0), none⟩,
 ⟨some 64, .nilCheck (.tmp 63), none⟩,
 ⟨some 65, .fieldAddr 2 (.tmp 64), none⟩,
 ⟨some 66, .load1 (.tmp 65), none⟩,
 ⟨some 67, .bin .add (.tmp 66) (.const (.int .i64 1)), none⟩,
 ⟨some 68, .nilCheck (.tmp 63), none⟩,
 ⟨some 69, .fieldAddr 2 (.tmp 68), none⟩,
 ⟨none, .store 1 (.tmp 69) (.tmp 67), none⟩])
 (.seq (.ops [⟨some 70, .move (.tmp 6), none⟩,
 ⟨some 4, .move (.tmp 70), none⟩,
 ⟨some 5, .move (.const (.int .i64 0)), none⟩])
 (.ret)))))))⟩
/-- (*hurdle/members.Members).Done -/
def c_members_Members_Done (F : Nat → FuncId) (Ty : Nat → TypeId) : IFunc := ⟨37, [.tmp 4],
 .seq (.ops [⟨some 4, .move (.const (.int .i64 0)), none⟩])
 (.seq (.block 0 (.seq (.ops [⟨some 6, .move (.tmp 0), none⟩,
 ⟨some 7, .eqNil 0 false (.tmp 6), none⟩,
 ⟨some 5, .move (.tmp 7), none⟩])
 (.cond (.tmp 5)
 (.seq (.ops [⟨some 4, .move (.const (.int .i64 1)), none⟩])
 (.ret))
 (.seq (.ops [⟨some 9, .move (.tmp 1), none⟩,
 ⟨some 10, .move (.tmp 0), none⟩,
 ⟨some 11, .nilCheck (.tmp 10), none⟩,
 ⟨some 12, .fieldAddr 2 (.tmp 11), none⟩,
 ⟨some 13, .load1 (.tmp 12), none⟩,
 ⟨some 14, .bin .neq (.tmp 9) (.tmp 13), none⟩,
 ⟨some 8, .move (.tmp 14), none⟩])
 (.cond (.tmp 8)
 (.seq (.ops [⟨some 4, .move (.const (.int .i64 10)), none⟩])
 (.ret))
 (.seq (.ops [⟨some 16, .move (.tmp 0), none⟩,
 ⟨some 17, .nilCheck (.tmp 16), none⟩,
 ⟨some 18, .fieldAddr 4 (.tmp 17), none⟩,
 ⟨some 19, .load1 (.tmp 18), none⟩,
 ⟨some 20, .un .not (.tmp 19), none⟩,
 ⟨some 15, .move (.tmp 20), none⟩])
 (.cond (.tmp 15)
 (.seq (.ops [⟨some 4, .move (.const (.int .i64 16)), none⟩])
 (.ret))
 (.skip))))))))
 (.seq (.ops [⟨some 21, .move (.tmp 0), none⟩,
 ⟨some 22, .move (.tmp 0), none⟩,
 ⟨some 23, .move (.tmp 0), none⟩,
 ⟨some 24, .nilCheck (.tmp 21), none⟩,
 ⟨some 25, .fieldAddr 3 (.tmp 24), none⟩,
 ⟨none, .store 1 (.tmp 25) (.const (.int .i64 (-1))), none⟩,
 ⟨some 26, .nilCheck (.tmp 22), none⟩,
 ⟨some 27, .fieldAddr 5 (.tmp 26), none⟩,
 ⟨none, .store 1 (.tmp 27) (.const (.int .i64 (-1))), none⟩,
 ⟨some 28, .nilCheck (.tmp 23), none⟩,
 ⟨some 29, .fieldAddr 4 (.tmp 28), none⟩,
 ⟨none, .store 1 (.tmp 29) (.const (.bool false)), none⟩])
 (.seq (.ops [⟨some 30, .move (.tmp 0), none⟩,
 ⟨some 31, .nilCheck (.tmp 30), none⟩,
 ⟨some 32, .fieldAddr 2 (.tmp 31), none⟩,
 ⟨some 33, .load1 (.tmp 32), none⟩,
 ⟨some 34, .bin .add (.tmp 33) (.const (.int .i64 1)), none⟩,
 ⟨some 35, .nilCheck (.tmp 30), none⟩,
 ⟨some 36, .fieldAddr 2 (.tmp 35), none⟩,
 ⟨none, .store 1 (.tmp 36) (.tmp 34), none⟩])
 (.seq (.ops [⟨some 4, .move (.const (.int .i64 0)), none⟩])
 (.ret)))))⟩
/-- (*hurdle/members.Members).Add -/
def c_members_Members_Add (F : Nat → FuncId) (Ty : Nat → TypeId) : IFunc := ⟨45, [.tmp 4],
 .seq (.ops [⟨some 4, .move (.const (.int .i64 0)), none⟩])
 (.seq (.seq (.ops [⟨some 5, .move (.tmp 0), none⟩,
 ⟨some 6, .eqNil 0 false (.tmp 5), none⟩,
 ⟨some 7, .move (.tmp 6), none⟩,
 ⟨some 8, .move (.tmp 1), some (7, false)⟩,
 ⟨some 9, .buildSlice 1 [.int .i64 0] [((0, 1), .tmp 8)], some (7, false)⟩,
 ⟨some 10, .buildSlice 1 [.slice none 0 0] [((0, 1), .tmp 9)], some (7, false)⟩,
 ⟨some 11, .call (F 111) [.tmp 10], some (7, false)⟩,
 ⟨some 12, .un .not (.tmp 11), some (7, false)⟩,
 ⟨some 13, .pick (.tmp 7) (.const (.bool true)) (.tmp 12), none⟩])
 (.cond (.tmp 13)
 (.seq (.ops [⟨some 4, .move (.const (.int .i64 1)), none⟩])
 (.ret))
 (.skip)))
 (.seq (.seq (.draw [(⟨some 14, .move (.tmp 0), none⟩, []),
 (⟨some 15, .nilCheck (.tmp 14), none⟩, []),
 (⟨some 16, .fieldAddr 0 (.tmp 15), none⟩, []),
 (⟨some 17, .load1 (.tmp 16), none⟩, []),
 (⟨some 18, .move (.tmp 0), none⟩, []),
 (⟨some 19, .nilCheck (.tmp 18), none⟩, []),
 (⟨some 20, .fieldAddr 1 (.tmp 19), none⟩, []),
 (⟨some 21, .load1 (.tmp 20), none⟩, []),
 (⟨some 22, .move (.tmp 1), none⟩, []),
 (⟨some 23, .buildSlice 1 [.int .i64 0] [((0, 1), .tmp 22)], none⟩, []),
 (⟨some 24, .buildSlice 3 [.slice none 0 0, .slice none 0 0, .slice none 0 0] [((0, 1), .tmp 17), ((1, 1), .tmp 21), ((2, 1), .tmp 23)], none⟩, []),
 (⟨some 25, .call (F 111) [.tmp 24], none⟩, []),
 (⟨some 26, .un .not (.tmp 25), none⟩, []),
 (⟨some 27, .move (.tmp 26), none⟩, []),
 (⟨some 28, .move (.tmp 1), some (27, false)⟩, []),
 (⟨some 29, .move (.tmp 0), some (27, false)⟩, []),
 (⟨some 30, .nilCheck (.tmp 29), some (27, false)⟩, []),
 (⟨some 31, .fieldAddr 5 (.tmp 30), some (27, false)⟩, []),
 (⟨some 32, .load1 (.tmp 31), some (27, false)⟩, []),
 (⟨some 33, .bin .eql (.tmp 28) (.tmp 32), some (27, false)⟩, []),
 (⟨some 34, .pick (.tmp 27) (.const (.bool true)) (.tmp 33), none⟩, [])])
 (.cond (.tmp 34)
 (.seq (.ops [⟨some 4, .move (.const (.int .i64 6)), none⟩])
 (.ret))
 (.skip)))
 (.seq (.ops [⟨some 35, .move (.tmp 0), none⟩,
 ⟨some 36, .move (.tmp 0), none⟩,
 ⟨some 37, .nilCheck (.tmp 36), none⟩,
 ⟨some 38, .fieldAddr 1 (.tmp 37), none⟩,
 ⟨some 39, .load1 (.tmp 38), none⟩,
 ⟨some 40, .move (.tmp 1), none⟩,
 ⟨some 41, .buildSlice 1 [.int .i64 0] [((0, 1), .tmp 40)], none⟩,
 ⟨some 42, .append 1 8 (.tmp 39) (.tmp 41), none⟩,
 ⟨some 43, .nilCheck (.tmp 35), none⟩,
 ⟨some 44, .fieldAddr 1 (.tmp 43), none⟩,
 ⟨none, .store 1 (.tmp 44) (.tmp 42), none⟩])
 (.seq (.ops [⟨some 4, .move (.const (.int .i64 0)), none⟩])
 (.ret)))))⟩
/-- hurdle/members.Read -/
def c_members_Read (F : Nat → FuncId) (Ty : Nat → TypeId) : IFunc := ⟨62, [.tmp 2, .tmp 3],
 .seq (.ops [⟨some 2, .move (.const (.pointer none)), none⟩,
 ⟨some 3, .move (.const (.int .i64 0)), none⟩])
 (.seq (.ops [⟨some 7, .move (.tmp 0), none⟩,
 ⟨some 8, .call (F 26) [.tmp 7], none⟩,
 ⟨some 4, .move (.tmp 8), none⟩])
 (.seq (.ops [⟨some 9, .move (.tmp 4), none⟩,
 ⟨some 10, .call (F 29) [.tmp 9], none⟩,
 ⟨some 11, .move (.tmp 4), none⟩,
 ⟨some 12, .call (F 29) [.tmp 11], none⟩,
 ⟨some 13, .build [.slice none 0 0, .slice none 0 0, .int .i64 0, .int .i64 0, .bool false, .int .i64 0] [((2, 1), .tmp 10), ((3, 1), .tmp 12)], none⟩,
 ⟨some 14, .box (.tmp 13), none⟩,
 ⟨some 5, .move (.tmp 14), none⟩])
 (.seq (.ops [⟨some 15, .move (.tmp 4), none⟩,
 ⟨some 16, .call (F 37) [.tmp 15], none⟩,
 ⟨some 6, .move (.tmp 16), none⟩])
 (.seq (.ops [⟨some 17, .move (.tmp 5), none⟩,
 ⟨some 18, .move (.tmp 5), none⟩,
 ⟨some 19, .move (.tmp 6), none⟩,
 ⟨some 20, .bin .eql (.tmp 19) (.const (.int .i64 1)), none⟩,
 ⟨some 21, .move (.tmp 4), none⟩,
 ⟨some 22, .call (F 29) [.tmp 21], none⟩,
 ⟨some 23, .nilCheck (.tmp 17), none⟩,
 ⟨some 24, .fieldAddr 4 (.tmp 23), none⟩,
 ⟨none, .store 1 (.tmp 24) (.tmp 20), none⟩,
 ⟨some 25, .nilCheck (.tmp 18), none⟩,
 ⟨some 26, .fieldAddr 5 (.tmp 25), none⟩,
 ⟨none, .store 1 (.tmp 26) (.tmp 22), none⟩])
 (.seq (.ops [⟨some 27, .move (.tmp 5), none⟩,
 ⟨some 28, .move (.tmp 5), none⟩,
 ⟨some 29, .move (.tmp 4), none⟩,
 ⟨some 30, .call (F 27) [.tmp 29], none⟩,
 ⟨some 31, .move (.tmp 4), none⟩,
 ⟨some 32, .call (F 27) [.tmp 31], none⟩,
 ⟨some 33, .nilCheck (.tmp 27), none⟩,
 ⟨some 34, .fieldAddr 0 (.tmp 33), none⟩,
 ⟨none, .store 1 (.tmp 34) (.tmp 30), none⟩,
 ⟨some 35, .nilCheck (.tmp 28), none⟩,
 ⟨some 36, .fieldAddr 1 (.tmp 35), none⟩,
 ⟨none, .store 1 (.tmp 36) (.tmp 32), none⟩])
 (.seq (.seq (.draw [(⟨some 37, .move (.tmp 4), none⟩, []),
 (⟨some 38, .call (F 30) [.tmp 37], none⟩, []),
 (⟨some 39, .bin .neq (.tmp 38) (.const (.int .i64 0)), none⟩, []),
 (⟨some 40, .move (.tmp 39), none⟩, []),
 (⟨some 41, .move (.tmp 6), some (40, false)⟩, []),
 (⟨some 42, .bin .gtr (.tmp 41) (.const (.int .i64 1)), some (40, false)⟩, []),
 (⟨some 43, .pick (.tmp 40) (.const (.bool true)) (.tmp 42), none⟩, []),
 (⟨some 44, .move (.tmp 43), none⟩, []),
 (⟨some 45, .move (.tmp 5), some (44, false)⟩, []),
 (⟨some 46, .nilCheck (.tmp 45), some (44, false)⟩, []),
 (⟨some 47, .fieldAddr 0 (.tmp 46), some (44, false)⟩, []),
 (⟨some 48, .load1 (.tmp 47), some (44, false)⟩, []),
 (⟨some 49, .move (.tmp 5), some (44, false)⟩, []),
 (⟨some 50, .nilCheck (.tmp 49), some (44, false)⟩, []),
 (⟨some 51, .fieldAddr 1 (.tmp 50), some (44, false)⟩, []),
 (⟨some 52, .load1 (.tmp 51), some (44, false)⟩, []),
 (⟨some 53, .call (F 108) [.tmp 48, .tmp 52], some (44, false)⟩, []),
 (⟨some 54, .un .not (.tmp 53), some (44, false)⟩, []),
 (⟨some 55, .pick (.tmp 44) (.const (.bool true)) (.tmp 54), none⟩, []),
 (⟨some 56, .move (.tmp 55), none⟩, []),
 (⟨some 57, .move (.tmp 5), some (56, false)⟩, []),
 (⟨some 58, .call (F 112) [.tmp 57], some (56, false)⟩, []),
 (⟨some 59, .un .not (.tmp 58), some (56, false)⟩, []),
 (⟨some 60, .pick (.tmp 56) (.const (.bool true)) (.tmp 59), none⟩, [])])
 (.cond (.tmp 60)
 (.seq (.ops [⟨some 2, .move (.const (.pointer none)), none⟩,
 ⟨some 3, .move (.const (.int .i64 3)), none⟩])
 (.ret))
 (.skip)))
 (.seq (.ops [⟨some 61, .move (.tmp 5), none⟩,
 ⟨some 2, .move (.tmp 61), none⟩,
 ⟨some 3, .move (.const (.int .i64 0)), none⟩])
 (.ret))))))))⟩
/-- hurdle/members.group -/
def c_members_group (F : Nat → FuncId) (Ty : Nat → TypeId) : IFunc := ⟨19, [.tmp 4],
 .seq (.ops [⟨some 4, .move (.const (.bool false)), none⟩])
 (.seq (.ops [⟨some 5, .move (.tmp 0), none⟩,
 ⟨some 6, .lenSl (.tmp 5), none⟩,
 ⟨some 7, .bin .geq (.tmp 6) (.const (.int .i64 2)), none⟩,
 ⟨some 8, .move (.tmp 7), none⟩,
 ⟨some 9, .move (.tmp 0), some (8, true)⟩,
 ⟨some 10, .lenSl (.tmp 9), some (8, true)⟩,
 ⟨some 11, .bin .leq (.tmp 10) (.const (.int .i64 8)), some (8, true)⟩,
 ⟨some 12, .pick (.tmp 8) (.tmp 11) (.const (.bool false)), none⟩,
 ⟨some 13, .move (.tmp 12), none⟩,
 ⟨some 14, .move (.tmp 0), some (13, true)⟩,
 ⟨some 15, .move (.tmp 1), some (13, true)⟩,
 ⟨some 16, .buildSlice 2 [.slice none 0 0, .slice none 0 0] [((0, 1), .tmp 14), ((1, 1), .tmp 15)], some (13, true)⟩,
 ⟨some 17, .call (F 111) [.tmp 16], some (13, true)⟩,
 ⟨some 18, .pick (.tmp 13) (.tmp 17) (.const (.bool false)), none⟩,
 ⟨some 4, .move (.tmp 18), none⟩])
 (.ret))⟩
/-- hurdle/members.list -/
def c_members_list (F : Nat → FuncId) (Ty : Nat → TypeId) : IFunc := ⟨11, [.tmp 2],
 .seq (.ops [⟨some 2, .move (.const (.slice none 0 0)), none⟩])
 (.seq (.ops [⟨some 4, .move (.tmp 0), none⟩,
 ⟨some 5, .lenSl (.tmp 4), none⟩,
 ⟨some 6, .mkSlice 8 [.int .i64 0] (.tmp 5) (.tmp 5), none⟩,
 ⟨some 3, .move (.tmp 6), none⟩])
 (.seq (.ops [⟨some 7, .move (.tmp 3), none⟩,
 ⟨some 8, .move (.tmp 0), none⟩,
 ⟨some 9, .copy 1 (.tmp 7) (.tmp 8), none⟩])
 (.seq (.ops [⟨some 10, .move (.tmp 3), none⟩,
 ⟨some 2, .move (.tmp 10), none⟩])
 (.ret))))⟩
/-- slices.Index[[]int,int] -/
def c_slices_Index_int_int (F : Nat → FuncId) (Ty : Nat → TypeId) : IFunc := ⟨19, [.tmp 4],
 .seq (.ops [⟨some 4, .move (.const (.int .i64 0)), none⟩])
 (.seq (.seq (.ops [⟨some 6, .move (.tmp 0), none⟩,
 ⟨some 7, .lenSl (.tmp 6), none⟩,
 ⟨some 8, .move (.const (.int .i64 0)), none⟩])
 (.block 0 (.loop (.seq (.ops [⟨some 9, .bin .lss (.tmp 8) (.tmp 7), none⟩])
 (.seq (.cond (.tmp 9)
 (.skip)
 (.exit 0))
 (.seq (.block 1 (.seq (.ops [⟨some 10, .move (.tmp 8), none⟩,
 ⟨some 5, .move (.tmp 10), none⟩])
 (.seq (.ops [⟨some 11, .move (.tmp 1), none⟩,
 ⟨some 12, .move (.tmp 0), none⟩,
 ⟨some 13, .move (.tmp 5), none⟩,
 ⟨some 14, .idxSl 1 (.tmp 12) (.tmp 13), none⟩,
 ⟨some 15, .load1 (.tmp 14), none⟩,
 ⟨some 16, .bin .eql (.tmp 11) (.tmp 15), none⟩])
 (.cond (.tmp 16)
 (.seq (.ops [⟨some 17, .move (.tmp 5), none⟩,
 ⟨some 4, .move (.tmp 17), none⟩])
 (.ret))
 (.skip)))))
 (.ops [⟨some 18, .bin .add (.tmp 8) (.const (.int .i64 1)), none⟩,
 ⟨some 8, .move (.tmp 18), none⟩])))))))
 (.seq (.ops [⟨some 4, .move (.const (.int .i64 (-1))), none⟩])
 (.ret)))⟩
/-- hurdle/members.apart -/
def c_members_apart (F : Nat → FuncId) (Ty : Nat → TypeId) : IFunc := ⟨35, [.tmp 2],
 .seq (.ops [⟨some 2, .move (.const (.bool false)), none⟩])
 (.seq (.ops [⟨some 3, .alloc [.bool false, .bool false, .bool false, .bool false, .bool false, .bool false, .bool false, .bool false, .bool false, .bool false, .bool false, .bool false, .bool false, .bool false, .bool false, .bool false, .bool false, .bool false, .bool false, .bool false, .bool false, .bool false, .bool false, .bool false, .bool false, .bool false, .bool false, .bool false, .bool false, .bool false, .bool false, .bool false, .bool false, .bool false, .bool false, .bool false, .bool false, .bool false, .bool false, .bool false, .bool false, .bool false, .bool false, .bool false, .bool false, .bool false, .bool false, .bool false, .bool false, .bool false, .bool false, .bool false, .bool false, .bool false, .bool false, .bool false, .bool false, .bool false, .bool false, .bool false, .bool false, .bool false, .bool false, .bool false], none⟩])
 (.seq (.seq (.ops [⟨some 8, .move (.tmp 0), none⟩,
 ⟨some 9, .lenSl (.tmp 8), none⟩,
 ⟨some 10, .move (.const (.int .i64 0)), none⟩])
 (.block 0 (.loop (.seq (.ops [⟨some 11, .bin .lss (.tmp 10) (.tmp 9), none⟩])
 (.seq (.cond (.tmp 11)
 (.skip)
 (.exit 0))
 (.seq (.block 1 (.seq (.ops [⟨some 12, .idxSl 1 (.tmp 8) (.tmp 10), none⟩,
 ⟨some 13, .load1 (.tmp 12), none⟩,
 ⟨some 5, .move (.tmp 13), none⟩])
 (.seq (.ops [⟨some 14, .move (.tmp 5), none⟩,
 ⟨some 15, .lenSl (.tmp 14), none⟩,
 ⟨some 16, .move (.const (.int .i64 0)), none⟩])
 (.block 2 (.loop (.seq (.ops [⟨some 17, .bin .lss (.tmp 16) (.tmp 15), none⟩])
 (.seq (.cond (.tmp 17)
 (.skip)
 (.exit 2))
 (.seq (.block 3 (.seq (.ops [⟨some 18, .idxSl 1 (.tmp 14) (.tmp 16), none⟩,
 ⟨some 19, .load1 (.tmp 18), none⟩,
 ⟨some 7, .move (.tmp 19), none⟩])
 (.seq (.seq (.ops [⟨some 20, .move (.tmp 7), none⟩,
 ⟨some 21, .bin .lss (.tmp 20) (.const (.int .i64 0)), none⟩,
 ⟨some 22, .move (.tmp 21), none⟩,
 ⟨some 23, .move (.tmp 7), some (22, false)⟩,
 ⟨some 24, .bin .geq (.tmp 23) (.const (.int .i64 64)), some (22, false)⟩,
 ⟨some 25, .pick (.tmp 22) (.const (.bool true)) (.tmp 24), none⟩,
 ⟨some 26, .move (.tmp 25), none⟩,
 ⟨some 27, .move (.tmp 7), some (26, false)⟩,
 ⟨some 28, .idxArr 64 1 (.tmp 3) (.tmp 27), some (26, false)⟩,
 ⟨some 29, .load1 (.tmp 28), some (26, false)⟩,
 ⟨some 30, .pick (.tmp 26) (.const (.bool true)) (.tmp 29), none⟩])
 (.cond (.tmp 30)
 (.seq (.ops [⟨some 2, .move (.const (.bool false)), none⟩])
 (.ret))
 (.skip)))
 (.ops [⟨some 31, .move (.tmp 7), none⟩,
 ⟨some 32, .idxArr 64 1 (.tmp 3) (.tmp 31), none⟩,
 ⟨none, .store 1 (.tmp 32) (.const (.bool true)), none⟩]))))
 (.ops [⟨some 33, .bin .add (.tmp 16) (.const (.int .i64 1)), none⟩,
 ⟨some 16, .move (.tmp 33), none⟩])))))))))
 (.ops [⟨some 34, .bin .add (.tmp 10) (.const (.int .i64 1)), none⟩,
 ⟨some 10, .move (.tmp 34), none⟩])))))))
 (.seq (.ops [⟨some 2, .move (.const (.bool true)), none⟩])
 (.ret))))⟩
/-- (*hurdle/members.Members).right -/
def c_members_Members_right (F : Nat → FuncId) (Ty : Nat → TypeId) : IFunc := ⟨82, [.tmp 2],
 .seq (.ops [⟨some 2, .move (.const (.bool false)), none⟩])
 (.seq (.block 0 (.seq (.draw [(⟨some 4, .move (.tmp 0), none⟩, []),
 (⟨some 5, .nilCheck (.tmp 4), none⟩, []),
 (⟨some 6, .fieldAddr 2 (.tmp 5), none⟩, []),
 (⟨some 7, .load1 (.tmp 6), none⟩, []),
 (⟨some 8, .bin .lss (.tmp 7) (.const (.int .i64 1)), none⟩, []),
 (⟨some 9, .move (.tmp 8), none⟩, []),
 (⟨some 10, .move (.tmp 0), some (9, false)⟩, []),
 (⟨some 11, .nilCheck (.tmp 10), some (9, false)⟩, []),
 (⟨some 12, .fieldAddr 3 (.tmp 11), some (9, false)⟩, []),
 (⟨some 13, .load1 (.tmp 12), some (9, false)⟩, []),
 (⟨some 14, .bin .lss (.tmp 13) (.const (.int .i64 (-1))), some (9, false)⟩, []),
 (⟨some 15, .pick (.tmp 9) (.const (.bool true)) (.tmp 14), none⟩, []),
 (⟨some 16, .move (.tmp 15), none⟩, []),
 (⟨some 17, .move (.tmp 0), some (16, false)⟩, []),
 (⟨some 18, .nilCheck (.tmp 17), some (16, false)⟩, []),
 (⟨some 19, .fieldAddr 3 (.tmp 18), some (16, false)⟩, []),
 (⟨some 20, .load1 (.tmp 19), some (16, false)⟩, []),
 (⟨some 21, .move (.tmp 0), some (16, false)⟩, []),
 (⟨some 22, .nilCheck (.tmp 21), some (16, false)⟩, []),
 (⟨some 23, .fieldAddr 0 (.tmp 22), some (16, false)⟩, []),
 (⟨some 24, .load1 (.tmp 23), some (16, false)⟩, []),
 (⟨some 25, .lenSl (.tmp 24), some (16, false)⟩, []),
 (⟨some 26, .bin .geq (.tmp 20) (.tmp 25), some (16, false)⟩, []),
 (⟨some 27, .pick (.tmp 16) (.const (.bool true)) (.tmp 26), none⟩, []),
 (⟨some 3, .move (.tmp 27), none⟩, [])])
 (.cond (.tmp 3)
 (.seq (.ops [⟨some 2, .move (.const (.bool false)), none⟩])
 (.ret))
 (.seq (.ops [⟨some 29, .move (.tmp 0), none⟩,
 ⟨some 30, .nilCheck (.tmp 29), none⟩,
 ⟨some 31, .fieldAddr 3 (.tmp 30), none⟩,
 ⟨some 32, .load1 (.tmp 31), none⟩,
 ⟨some 33, .bin .eql (.tmp 32) (.const (.int .i64 (-1))), none⟩,
 ⟨some 28, .move (.tmp 33), none⟩])
 (.cond (.tmp 28)
 (.seq (.ops [⟨some 34, .move (.tmp 0), none⟩,
 ⟨some 35, .nilCheck (.tmp 34), none⟩,
 ⟨some 36, .fieldAddr 4 (.tmp 35), none⟩,
 ⟨some 37, .load1 (.tmp 36), none⟩,
 ⟨some 38, .un .not (.tmp 37), none⟩,
 ⟨some 39, .move (.tmp 38), none⟩,
 ⟨some 40, .move (.tmp 0), some (39, true)⟩,
 ⟨some 41, .nilCheck (.tmp 40), some (39, true)⟩,
 ⟨some 42, .fieldAddr 5 (.tmp 41), some (39, true)⟩,
 ⟨some 43, .load1 (.tmp 42), some (39, true)⟩,
 ⟨some 44, .bin .eql (.tmp 43) (.const (.int .i64 (-1))), some (39, true)⟩,
 ⟨some 45, .pick (.tmp 39) (.tmp 44) (.const (.bool false)), none⟩,
 ⟨some 2, .move (.tmp 45), none⟩])
 (.ret))
 (.seq (.ops [⟨some 47, .move (.tmp 0), none⟩,
 ⟨some 48, .nilCheck (.tmp 47), none⟩,
 ⟨some 49, .fieldAddr 4 (.tmp 48), none⟩,
 ⟨some 50, .load1 (.tmp 49), none⟩,
 ⟨some 51, .un .not (.tmp 50), none⟩,
 ⟨some 46, .move (.tmp 51), none⟩])
 (.cond (.tmp 46)
 (.seq (.draw [(⟨some 52, .move (.tmp 0), none⟩, []),
 (⟨some 53, .nilCheck (.tmp 52), none⟩, []),
 (⟨some 54, .fieldAddr 5 (.tmp 53), none⟩, []),
 (⟨some 55, .load1 (.tmp 54), none⟩, []),
 (⟨some 56, .move (.tmp 0), none⟩, []),
 (⟨some 57, .nilCheck (.tmp 56), none⟩, []),
 (⟨some 58, .fieldAddr 0 (.tmp 57), none⟩, []),
 (⟨some 59, .load1 (.tmp 58), none⟩, []),
 (⟨some 60, .move (.tmp 0), none⟩, []),
 (⟨some 61, .nilCheck (.tmp 60), none⟩, []),
 (⟨some 62, .fieldAddr 3 (.tmp 61), none⟩, []),
 (⟨some 63, .load1 (.tmp 62), none⟩, []),
 (⟨some 64, .idxSl 1 (.tmp 59) (.tmp 63), none⟩, []),
 (⟨some 65, .load1 (.tmp 64), none⟩, []),
 (⟨some 66, .bin .eql (.tmp 55) (.tmp 65), none⟩, []),
 (⟨some 2, .move (.tmp 66), none⟩, [])])
 (.ret))
 (.skip))))))))
 (.seq (.draw [(⟨some 67, .move (.tmp 0), none⟩, []),
 (⟨some 68, .nilCheck (.tmp 67), none⟩, []),
 (⟨some 69, .fieldAddr 0 (.tmp 68), none⟩, []),
 (⟨some 70, .load1 (.tmp 69), none⟩, []),
 (⟨some 71, .move (.tmp 0), none⟩, []),
 (⟨some 72, .nilCheck (.tmp 71), none⟩, []),
 (⟨some 73, .fieldAddr 1 (.tmp 72), none⟩, []),
 (⟨some 74, .load1 (.tmp 73), none⟩, []),
 (⟨some 75, .move (.tmp 0), none⟩, []),
 (⟨some 76, .nilCheck (.tmp 75), none⟩, []),
 (⟨some 77, .fieldAddr 5 (.tmp 76), none⟩, []),
 (⟨some 78, .load1 (.tmp 77), none⟩, []),
 (⟨some 79, .buildSlice 1 [.int .i64 0] [((0, 1), .tmp 78)], none⟩, []),
 (⟨some 80, .buildSlice 3 [.slice none 0 0, .slice none 0 0, .slice none 0 0] [((0, 1), .tmp 70), ((1, 1), .tmp 74), ((2, 1), .tmp 79)], none⟩, []),
 (⟨some 81, .call (F 111) [.tmp 80], none⟩, []),
 (⟨some 2, .move (.tmp 81), none⟩, [])])
 (.ret)))⟩
/-- A context has these functions. -/
structure HasMembers (c : Ctx) : Prop where
 members_New : c.IP (c.F 97) = some (c_members_New c.F c.Ty)
 members_Members_Epoch : c.IP (c.F 98) = some (c_members_Members_Epoch c.F c.Ty)
 members_Members_Hole : c.IP (c.F 99) = some (c_members_Members_Hole c.F c.Ty)
 members_Members_Servers : c.IP (c.F 100) = some (c_members_Members_Servers c.F c.Ty)
 members_Members_Spares : c.IP (c.F 101) = some (c_members_Members_Spares c.F c.Ty)
 members_Members_Text : c.IP (c.F 102) = some (c_members_Members_Text c.F c.Ty)
 members_Members_Fail : c.IP (c.F 103) = some (c_members_Members_Fail c.F c.Ty)
 members_Members_Swap : c.IP (c.F 104) = some (c_members_Members_Swap c.F c.Ty)
 members_Members_Done : c.IP (c.F 105) = some (c_members_Members_Done c.F c.Ty)
 members_Members_Add : c.IP (c.F 106) = some (c_members_Members_Add c.F c.Ty)
 members_Read : c.IP (c.F 107) = some (c_members_Read c.F c.Ty)
 members_group : c.IP (c.F 108) = some (c_members_group c.F c.Ty)
 members_list : c.IP (c.F 109) = some (c_members_list c.F c.Ty)
 slices_Index_int_int : c.IP (c.F 110) = some (c_slices_Index_int_int c.F c.Ty)
 members_apart : c.IP (c.F 111) = some (c_members_apart c.F c.Ty)
 members_Members_right : c.IP (c.F 112) = some (c_members_Members_right c.F c.Ty)

end Go.Proofs.YtkphglpmhebglaaI
