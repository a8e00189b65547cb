/- PRINTED by gen.py (this session's own): the intermediate form of some functions, and a context's having them. / Who is in a group: plain laws. / Who is in a group: what each function does. / Who is in a group: its deeds. / PRINTED by mk28v.py: what may lie far from a list of blocks. -/
import Derived.Test.YtndndcdblfejnaaGreatRCodecWM
import Derived.Test.YtndndcdblfejnaaGreatRMaps
import Derived.Test.YtndndcdblfejnaaGreatRCodecPM
namespace Go.Proofs.YtndndcdblfejnaaGreatRI
set_option linter.unusedSimpArgs false
set_option linter.unusedVariables false
open Go

/-- hurdle/members.New -/
abbrev n_members_New : Nat := 97
/-- (*hurdle/members.Members).Epoch -/
abbrev n_members_Members_Epoch : Nat := 98
/-- (*hurdle/members.Members).Servers -/
abbrev n_members_Members_Servers : Nat := 100
/-- (*hurdle/members.Members).Fail -/
abbrev n_members_Members_Fail : Nat := 103
/-- (*hurdle/members.Members).Swap -/
abbrev n_members_Members_Swap : Nat := 104
/-- (*hurdle/members.Members).Done -/
abbrev n_members_Members_Done : Nat := 105
/-- hurdle/members.group -/
abbrev n_members_group : Nat := 108
/-- hurdle/members.list -/
abbrev n_members_list : Nat := 109
/-- slices.Index[[]int,int] -/
abbrev n_slices_Index_int_int : Nat := 110
/-- hurdle/members.apart -/
abbrev n_members_apart : Nat := 111
/-- hurdle/members.New -/
def c_members_New (F : Nat → FuncId) (Ty : Nat → TypeId) : IFunc := ⟨15, [.tmp 4],
 .seq (.ops [⟨some 4, .move (.const (.pointer none)), none⟩])
 (.seq (.seq (.ops [⟨some 5, .move (.tmp 0), none⟩,
 ⟨some 6, .move (.tmp 1), none⟩,
 ⟨some 7, .call (F 108) [.tmp 5, .tmp 6], none⟩,
 ⟨some 8, .un .not (.tmp 7), none⟩])
 (.cond (.tmp 8)
 (.seq (.ops [⟨some 4, .move (.const (.pointer none)), none⟩])
 (.ret))
 (.skip)))
 (.seq (.ops [⟨some 9, .move (.tmp 0), none⟩,
 ⟨some 10, .call (F 109) [.tmp 9], none⟩,
 ⟨some 11, .move (.tmp 1), none⟩,
 ⟨some 12, .call (F 109) [.tmp 11], none⟩,
 ⟨some 13, .build [.slice none 0 0, .slice none 0 0, .int .i64 0, .int .i64 0, .bool false, .int .i64 0] [((0, 1), .tmp 10), ((1, 1), .tmp 12), ((2, 1), .const (.int .i64 1)), ((3, 1), .const (.int .i64 (-1))), ((5, 1), .const (.int .i64 (-1)))], none⟩,
 ⟨some 14, .box (.tmp 13), none⟩,
 ⟨some 4, .move (.tmp 14), none⟩])
 (.ret)))⟩
/-- (*hurdle/members.Members).Epoch -/
def c_members_Members_Epoch (F : Nat → FuncId) (Ty : Nat → TypeId) : IFunc := ⟨9, [.tmp 2],
 .seq (.ops [⟨some 2, .move (.const (.int .i64 0)), none⟩])
 (.seq (.seq (.ops [⟨some 3, .move (.tmp 0), none⟩,
 ⟨some 4, .eqNil 0 false (.tmp 3), none⟩])
 (.cond (.tmp 4)
 (.seq (.ops [⟨some 2, .move (.const (.int .i64 0)), none⟩])
 (.ret))
 (.skip)))
 (.seq (.ops [⟨some 5, .move (.tmp 0), none⟩,
 ⟨some 6, .nilCheck (.tmp 5), none⟩,
 ⟨some 7, .fieldAddr 2 (.tmp 6), none⟩,
 ⟨some 8, .load1 (.tmp 7), none⟩,
 ⟨some 2, .move (.tmp 8), none⟩])
 (.ret)))⟩
/-- (*hurdle/members.Members).Servers -/
def c_members_Members_Servers (F : Nat → FuncId) (Ty : Nat → TypeId) : IFunc := ⟨10, [.tmp 2],
 .seq (.ops [⟨some 2, .move (.const (.slice none 0 0)), none⟩])
 (.seq (.seq (.ops [⟨some 3, .move (.tmp 0), none⟩,
 ⟨some 4, .eqNil 0 false (.tmp 3), none⟩])
 (.cond (.tmp 4)
 (.seq (.ops [⟨some 2, .move (.const (.slice none 0 0)), none⟩])
 (.ret))
 (.skip)))
 (.seq (.ops [⟨some 5, .move (.tmp 0), none⟩,
 ⟨some 6, .nilCheck (.tmp 5), none⟩,
 ⟨some 7, .fieldAddr 0 (.tmp 6), none⟩,
 ⟨some 8, .load1 (.tmp 7), none⟩,
 ⟨some 9, .call (F 109) [.tmp 8], none⟩,
 ⟨some 2, .move (.tmp 9), none⟩])
 (.ret)))⟩
/-- (*hurdle/members.Members).Fail -/
def c_members_Members_Fail (F : Nat → FuncId) (Ty : Nat → TypeId) : IFunc := ⟨50, [.tmp 6],
 .seq (.ops [⟨some 6, .move (.const (.int .i64 0)), none⟩])
 (.seq (.seq (.ops [⟨some 8, .move (.tmp 0), none⟩,
 ⟨some 9, .eqNil 0 false (.tmp 8), none⟩])
 (.cond (.tmp 9)
 (.seq (.ops [⟨some 6, .move (.const (.int .i64 1)), none⟩])
 (.ret))
 (.skip)))
 (.seq (.ops [⟨some 10, .move (.tmp 0), none⟩,
 ⟨some 11, .nilCheck (.tmp 10), none⟩,
 ⟨some 12, .fieldAddr 0 (.tmp 11), none⟩,
 ⟨some 13, .load1 (.tmp 12), none⟩,
 ⟨some 14, .move (.tmp 1), none⟩,
 ⟨some 15, .call (F 110) [.tmp 13, .tmp 14], none⟩,
 ⟨some 7, .move (.tmp 15), none⟩])
 (.seq (.block 0 (.seq (.ops [⟨some 17, .move (.tmp 7), none⟩,
 ⟨some 18, .bin .lss (.tmp 17) (.const (.int .i64 0)), none⟩,
 ⟨some 16, .move (.tmp 18), none⟩])
 (.cond (.tmp 16)
 (.seq (.ops [⟨some 6, .move (.const (.int .i64 7)), none⟩])
 (.ret))
 (.seq (.ops [⟨some 20, .move (.tmp 0), none⟩,
 ⟨some 21, .nilCheck (.tmp 20), none⟩,
 ⟨some 22, .fieldAddr 3 (.tmp 21), none⟩,
 ⟨some 23, .load1 (.tmp 22), none⟩,
 ⟨some 24, .bin .neq (.tmp 23) (.const (.int .i64 (-1))), none⟩,
 ⟨some 19, .move (.tmp 24), none⟩])
 (.cond (.tmp 19)
 (.seq (.ops [⟨some 6, .move (.const (.int .i64 9)), none⟩])
 (.ret))
 (.seq (.ops [⟨some 26, .move (.tmp 2), none⟩,
 ⟨some 27, .move (.tmp 0), none⟩,
 ⟨some 28, .nilCheck (.tmp 27), none⟩,
 ⟨some 29, .fieldAddr 2 (.tmp 28), none⟩,
 ⟨some 30, .load1 (.tmp 29), none⟩,
 ⟨some 31, .bin .neq (.tmp 26) (.tmp 30), none⟩,
 ⟨some 25, .move (.tmp 31), none⟩])
 (.cond (.tmp 25)
 (.seq (.ops [⟨some 6, .move (.const (.int .i64 10)), none⟩])
 (.ret))
 (.skip))))))))
 (.seq (.ops [⟨some 32, .move (.tmp 0), none⟩,
 ⟨some 33, .move (.tmp 0), none⟩,
 ⟨some 34, .move (.tmp 0), none⟩,
 ⟨some 35, .move (.tmp 7), none⟩,
 ⟨some 36, .move (.tmp 1), none⟩,
 ⟨some 37, .nilCheck (.tmp 32), none⟩,
 ⟨some 38, .fieldAddr 3 (.tmp 37), none⟩,
 ⟨none, .store 1 (.tmp 38) (.tmp 35), none⟩,
 ⟨some 39, .nilCheck (.tmp 33), none⟩,
 ⟨some 40, .fieldAddr 5 (.tmp 39), none⟩,
 ⟨none, .store 1 (.tmp 40) (.tmp 36), none⟩,
 ⟨some 41, .nilCheck (.tmp 34), none⟩,
 ⟨some 42, .fieldAddr 4 (.tmp 41), none⟩,
 ⟨none, .store 1 (.tmp 42) (.const (.bool false)), none⟩])
 (.seq (.ops [⟨some 43, .move (.tmp 0), none⟩,
 ⟨some 44, .nilCheck (.tmp 43), none⟩,
 ⟨some 45, .fieldAddr 2 (.tmp 44), none⟩,
 ⟨some 46, .load1 (.tmp 45), none⟩,
 ⟨some 47, .bin .add (.tmp 46) (.const (.int .i64 1)), none⟩,
 ⟨some 48, .nilCheck (.tmp 43), none⟩,
 ⟨some 49, .fieldAddr 2 (.tmp 48), none⟩,
 ⟨none, .store 1 (.tmp 49) (.tmp 47), none⟩])
 (.seq (.ops [⟨some 6, .move (.const (.int .i64 0)), none⟩])
 (.ret)))))))⟩
/-- (*hurdle/members.Members).Swap -/
def c_members_Members_Swap (F : Nat → FuncId) (Ty : Nat → TypeId) : IFunc := ⟨71, [.tmp 4, .tmp 5],
 .seq (.ops [⟨some 4, .move (.const (.int .i64 0)), none⟩,
 ⟨some 5, .move (.const (.int .i64 0)), none⟩])
 (.seq (.block 0 (.seq (.ops [⟨some 8, .move (.tmp 0), none⟩,
 ⟨some 9, .eqNil 0 false (.tmp 8), none⟩,
 ⟨some 7, .move (.tmp 9), none⟩])
 (.cond (.tmp 7)
 (.seq (.ops [⟨some 4, .move (.const (.int .i64 0)), none⟩,
 ⟨some 5, .move (.const (.int .i64 1)), none⟩])
 (.ret))
 (.seq (.ops [⟨some 11, .move (.tmp 0), none⟩,
 ⟨some 12, .nilCheck (.tmp 11), none⟩,
 ⟨some 13, .fieldAddr 1 (.tmp 12), none⟩,
 ⟨some 14, .load1 (.tmp 13), none⟩,
 ⟨some 15, .lenSl (.tmp 14), none⟩,
 ⟨some 16, .bin .eql (.tmp 15) (.const (.int .i64 0)), none⟩,
 ⟨some 10, .move (.tmp 16), none⟩])
 (.cond (.tmp 10)
 (.seq (.ops [⟨some 4, .move (.const (.int .i64 0)), none⟩,
 ⟨some 5, .move (.const (.int .i64 7)), none⟩])
 (.ret))
 (.seq (.ops [⟨some 18, .move (.tmp 1), none⟩,
 ⟨some 19, .move (.tmp 0), none⟩,
 ⟨some 20, .nilCheck (.tmp 19), none⟩,
 ⟨some 21, .fieldAddr 2 (.tmp 20), none⟩,
 ⟨some 22, .load1 (.tmp 21), none⟩,
 ⟨some 23, .bin .neq (.tmp 18) (.tmp 22), none⟩,
 ⟨some 17, .move (.tmp 23), none⟩])
 (.cond (.tmp 17)
 (.seq (.ops [⟨some 4, .move (.const (.int .i64 0)), none⟩,
 ⟨some 5, .move (.const (.int .i64 10)), none⟩])
 (.ret))
 (.seq (.ops [⟨some 25, .move (.tmp 0), none⟩,
 ⟨some 26, .nilCheck (.tmp 25), none⟩,
 ⟨some 27, .fieldAddr 3 (.tmp 26), none⟩,
 ⟨some 28, .load1 (.tmp 27), none⟩,
 ⟨some 29, .bin .eql (.tmp 28) (.const (.int .i64 (-1))), none⟩,
 ⟨some 30, .move (.tmp 29), none⟩,
 ⟨some 31, .move (.tmp 0), some (30, false)⟩,
 ⟨some 32, .nilCheck (.tmp 31), some (30, false)⟩,
 ⟨some 33, .fieldAddr 4 (.tmp 32), some (30, false)⟩,
 ⟨some 34, .load1 (.tmp 33), some (30, false)⟩,
 ⟨some 35, .pick (.tmp 30) (.const (.bool true)) (.tmp 34), none⟩,
 ⟨some 24, .move (.tmp 35), none⟩])
 (.cond (.tmp 24)
 (.seq (.ops [⟨some 4, .move (.const (.int .i64 0)), none⟩,
 ⟨some 5, .move (.const (.int .i64 16)), none⟩])
 (.ret))
 (.skip))))))))))
 (.seq (.ops [⟨some 36, .move (.tmp 0), none⟩,
 ⟨some 37, .nilCheck (.tmp 36), none⟩,
 ⟨some 38, .fieldAddr 1 (.tmp 37), none⟩,
 ⟨some 39, .load1 (.tmp 38), none⟩,
 ⟨some 40, .idxSl 1 (.tmp 39) (.const (.int .i64 0)), none⟩,
 ⟨some 41, .load1 (.tmp 40), none⟩,
 ⟨some 6, .move (.tmp 41), none⟩])
 (.seq (.ops [⟨some 42, .move (.tmp 0), none⟩,
 ⟨some 43, .move (.tmp 0), none⟩,
 ⟨some 44, .nilCheck (.tmp 43), none⟩,
 ⟨some 45, .fieldAddr 1 (.tmp 44), none⟩,
 ⟨some 46, .load1 (.tmp 45), none⟩,
 ⟨some 47, .sliceSl 1 (.tmp 46) (some (.const (.int .i64 1))) none none, none⟩,
 ⟨some 48, .nilCheck (.tmp 42), none⟩,
 ⟨some 49, .fieldAddr 1 (.tmp 48), none⟩,
 ⟨none, .store 1 (.tmp 49) (.tmp 47), none⟩])
 (.seq (.draw [(⟨some 50, .move (.tmp 0), none⟩, []),
 (⟨some 51, .nilCheck (.tmp 50), none⟩, []),
 (⟨some 52, .fieldAddr 0 (.tmp 51), none⟩, []),
 (⟨some 53, .load1 (.tmp 52), none⟩, []),
 (⟨some 54, .move (.tmp 0), none⟩, []),
 (⟨some 55, .nilCheck (.tmp 54), none⟩, []),
 (⟨some 56, .fieldAddr 3 (.tmp 55), none⟩, []),
 (⟨some 57, .load1 (.tmp 56), none⟩, []),
 (⟨some 58, .move (.tmp 0), none⟩, []),
 (⟨some 59, .move (.tmp 6), none⟩, []),
 (⟨some 60, .idxSl 1 (.tmp 53) (.tmp 57), none⟩, []),
 (⟨none, .store 1 (.tmp 60) (.tmp 59), none⟩, []),
 (⟨some 61, .nilCheck (.tmp 58), none⟩, []),
 (⟨some 62, .fieldAddr 4 (.tmp 61), none⟩, []),
 (⟨none, .store 1 (.tmp 62) (.const (.bool true)), none⟩, [])])
 (.seq (.ops [⟨some 63, .move (.tmp 0), none⟩,
 ⟨some 64, .nilCheck (.tmp 63), none⟩,
 ⟨some 65, .fieldAddr 2 (.tmp 64), none⟩,
 ⟨some 66, .load1 (.tmp 65), none⟩,
 ⟨some 67, .bin .add (.tmp 66) (.const (.int .i64 1)), none⟩,
 ⟨some 68, .nilCheck (.tmp 63), none⟩,
 ⟨some 69, .fieldAddr 2 (.tmp 68), none⟩,
 ⟨none, .store 1 (.tmp 69) (.tmp 67), none⟩])
 (.seq (.ops [⟨some 70, .move (.tmp 6), none⟩,
 ⟨some 4, .move (.tmp 70), none⟩,
 ⟨some 5, .move (.const (.int .i64 0)), none⟩])
 (.ret)))))))⟩
/-- (*hurdle/members.Members).Done -/
def c_members_Members_Done (F : Nat → FuncId) (Ty : Nat → TypeId) : IFunc := ⟨37, [.tmp 4],
 .seq (.ops [⟨some 4, .move (.const (.int .i64 0)), none⟩])
 (.seq (.block 0 (.seq (.ops [⟨some 6, .move (.tmp 0), none⟩,
 ⟨some 7, .eqNil 0 false (.tmp 6), none⟩,
 ⟨some 5, .move (.tmp 7), none⟩])
 (.cond (.tmp 5)
 (.seq (.ops [⟨some 4, .move (.const (.int .i64 1)), none⟩])
 (.ret))
 (.seq (.ops [⟨some 9, .move (.tmp 1), none⟩,
 ⟨some 10, .move (.tmp 0), none⟩,
 ⟨some 11, .nilCheck (.tmp 10), none⟩,
 ⟨some 12, .fieldAddr 2 (.tmp 11), none⟩,
 ⟨some 13, .load1 (.tmp 12), none⟩,
 ⟨some 14, .bin .neq (.tmp 9) (.tmp 13), none⟩,
 ⟨some 8, .move (.tmp 14), none⟩])
 (.cond (.tmp 8)
 (.seq (.ops [⟨some 4, .move (.const (.int .i64 10)), none⟩])
 (.ret))
 (.seq (.ops [⟨some 16, .move (.tmp 0), none⟩,
 ⟨some 17, .nilCheck (.tmp 16), none⟩,
 ⟨some 18, .fieldAddr 4 (.tmp 17), none⟩,
 ⟨some 19, .load1 (.tmp 18), none⟩,
 ⟨some 20, .un .not (.tmp 19), none⟩,
 ⟨some 15, .move (.tmp 20), none⟩])
 (.cond (.tmp 15)
 (.seq (.ops [⟨some 4, .move (.const (.int .i64 16)), none⟩])
 (.ret))
 (.skip))))))))
 (.seq (.ops [⟨some 21, .move (.tmp 0), none⟩,
 ⟨some 22, .move (.tmp 0), none⟩,
 ⟨some 23, .move (.tmp 0), none⟩,
 ⟨some 24, .nilCheck (.tmp 21), none⟩,
 ⟨some 25, .fieldAddr 3 (.tmp 24), none⟩,
 ⟨none, .store 1 (.tmp 25) (.const (.int .i64 (-1))), none⟩,
 ⟨some 26, .nilCheck (.tmp 22), none⟩,
 ⟨some 27, .fieldAddr 5 (.tmp 26), none⟩,
 ⟨none, .store 1 (.tmp 27) (.const (.int .i64 (-1))), none⟩,
 ⟨some 28, .nilCheck (.tmp 23), none⟩,
 ⟨some 29, .fieldAddr 4 (.tmp 28), none⟩,
 ⟨none, .store 1 (.tmp 29) (.const (.bool false)), none⟩])
 (.seq (.ops [⟨some 30, .move (.tmp 0), none⟩,
 ⟨some 31, .nilCheck (.tmp 30), none⟩,
 ⟨some 32, .fieldAddr 2 (.tmp 31), none⟩,
 ⟨some 33, .load1 (.tmp 32), none⟩,
 ⟨some 34, .bin .add (.tmp 33) (.const (.int .i64 1)), none⟩,
 ⟨some 35, .nilCheck (.tmp 30), none⟩,
 ⟨some 36, .fieldAddr 2 (.tmp 35), none⟩,
 ⟨none, .store 1 (.tmp 36) (.tmp 34), none⟩])
 (.seq (.ops [⟨some 4, .move (.const (.int .i64 0)), none⟩])
 (.ret)))))⟩
/-- hurdle/members.group -/
def c_members_group (F : Nat → FuncId) (Ty : Nat → TypeId) : IFunc := ⟨19, [.tmp 4],
 .seq (.ops [⟨some 4, .move (.const (.bool false)), none⟩])
 (.seq (.ops [⟨some 5, .move (.tmp 0), none⟩,
 ⟨some 6, .lenSl (.tmp 5), none⟩,
 ⟨some 7, .bin .geq (.tmp 6) (.const (.int .i64 2)), none⟩,
 ⟨some 8, .move (.tmp 7), none⟩,
 ⟨some 9, .move (.tmp 0), some (8, true)⟩,
 ⟨some 10, .lenSl (.tmp 9), some (8, true)⟩,
 ⟨some 11, .bin .leq (.tmp 10) (.const (.int .i64 8)), some (8, true)⟩,
 ⟨some 12, .pick (.tmp 8) (.tmp 11) (.const (.bool false)), none⟩,
 ⟨some 13, .move (.tmp 12), none⟩,
 ⟨some 14, .move (.tmp 0), some (13, true)⟩,
 ⟨some 15, .move (.tmp 1), some (13, true)⟩,
 ⟨some 16, .buildSlice 2 [.slice none 0 0, .slice none 0 0] [((0, 1), .tmp 14), ((1, 1), .tmp 15)], some (13, true)⟩,
 ⟨some 17, .call (F 111) [.tmp 16], some (13, true)⟩,
 ⟨some 18, .pick (.tmp 13) (.tmp 17) (.const (.bool false)), none⟩,
 ⟨some 4, .move (.tmp 18), none⟩])
 (.ret))⟩
/-- hurdle/members.list -/
def c_members_list (F : Nat → FuncId) (Ty : Nat → TypeId) : IFunc := ⟨11, [.tmp 2],
 .seq (.ops [⟨some 2, .move (.const (.slice none 0 0)), none⟩])
 (.seq (.ops [⟨some 4, .move (.tmp 0), none⟩,
 ⟨some 5, .lenSl (.tmp 4), none⟩,
 ⟨some 6, .mkSlice 8 [.int .i64 0] (.tmp 5) (.tmp 5), none⟩,
 ⟨some 3, .move (.tmp 6), none⟩])
 (.seq (.ops [⟨some 7, .move (.tmp 3), none⟩,
 ⟨some 8, .move (.tmp 0), none⟩,
 ⟨some 9, .copy 1 (.tmp 7) (.tmp 8), none⟩])
 (.seq (.ops [⟨some 10, .move (.tmp 3), none⟩,
 ⟨some 2, .move (.tmp 10), none⟩])
 (.ret))))⟩
/-- slices.Index[[]int,int] -/
def c_slices_Index_int_int (F : Nat → FuncId) (Ty : Nat → TypeId) : IFunc := ⟨19, [.tmp 4],
 .seq (.ops [⟨some 4, .move (.const (.int .i64 0)), none⟩])
 (.seq (.seq (.ops [⟨some 6, .move (.tmp 0), none⟩,
 ⟨some 7, .lenSl (.tmp 6), none⟩,
 ⟨some 8, .move (.const (.int .i64 0)), none⟩])
 (.block 0 (.loop (.seq (.ops [⟨some 9, .bin .lss (.tmp 8) (.tmp 7), none⟩])
 (.seq (.cond (.tmp 9)
 (.skip)
 (.exit 0))
 (.seq (.block 1 (.seq (.ops [⟨some 10, .move (.tmp 8), none⟩,
 ⟨some 5, .move (.tmp 10), none⟩])
 (.seq (.ops [⟨some 11, .move (.tmp 1), none⟩,
 ⟨some 12, .move (.tmp 0), none⟩,
 ⟨some 13, .move (.tmp 5), none⟩,
 ⟨some 14, .idxSl 1 (.tmp 12) (.tmp 13), none⟩,
 ⟨some 15, .load1 (.tmp 14), none⟩,
 ⟨some 16, .bin .eql (.tmp 11) (.tmp 15), none⟩])
 (.cond (.tmp 16)
 (.seq (.ops [⟨some 17, .move (.tmp 5), none⟩,
 ⟨some 4, .move (.tmp 17), none⟩])
 (.ret))
 (.skip)))))
 (.ops [⟨some 18, .bin .add (.tmp 8) (.const (.int .i64 1)), none⟩,
 ⟨some 8, .move (.tmp 18), none⟩])))))))
 (.seq (.ops [⟨some 4, .move (.const (.int .i64 (-1))), none⟩])
 (.ret)))⟩
/-- hurdle/members.apart -/
def c_members_apart (F : Nat → FuncId) (Ty : Nat → TypeId) : IFunc := ⟨35, [.tmp 2],
 .seq (.ops [⟨some 2, .move (.const (.bool false)), none⟩])
 (.seq (.ops [⟨some 3, .alloc [.bool false, .bool false, .bool false, .bool false, .bool false, .bool false, .bool false, .bool false, .bool false, .bool false, .bool false, .bool false, .bool false, .bool false, .bool false, .bool false, .bool false, .bool false, .bool false, .bool false, .bool false, .bool false, .bool false, .bool false, .bool false, .bool false, .bool false, .bool false, .bool false, .bool false, .bool false, .bool false, .bool false, .bool false, .bool false, .bool false, .bool false, .bool false, .bool false, .bool false, .bool false, .bool false, .bool false, .bool false, .bool false, .bool false, .bool false, .bool false, .bool false, .bool false, .bool false, .bool false, .bool false, .bool false, .bool false, .bool false, .bool false, .bool false, .bool false, .bool false, .bool false, .bool false, .bool false, .bool false], none⟩])
 (.seq (.seq (.ops [⟨some 8, .move (.tmp 0), none⟩,
 ⟨some 9, .lenSl (.tmp 8), none⟩,
 ⟨some 10, .move (.const (.int .i64 0)), none⟩])
 (.block 0 (.loop (.seq (.ops [⟨some 11, .bin .lss (.tmp 10) (.tmp 9), none⟩])
 (.seq (.cond (.tmp 11)
 (.skip)
 (.exit 0))
 (.seq (.block 1 (.seq (.ops [⟨some 12, .idxSl 1 (.tmp 8) (.tmp 10), none⟩,
 ⟨some 13, .load1 (.tmp 12), none⟩,
 ⟨some 5, .move (.tmp 13), none⟩])
 (.seq (.ops [⟨some 14, .move (.tmp 5), none⟩,
 ⟨some 15, .lenSl (.tmp 14), none⟩,
 ⟨some 16, .move (.const (.int .i64 0)), none⟩])
 (.block 2 (.loop (.seq (.ops [⟨some 17, .bin .lss (.tmp 16) (.tmp 15), none⟩])
 (.seq (.cond (.tmp 17)
 (.skip)
 (.exit 2))
 (.seq (.block 3 (.seq (.ops [⟨some 18, .idxSl 1 (.tmp 14) (.tmp 16), none⟩,
 ⟨some 19, .load1 (.tmp 18), none⟩,
 ⟨some 7, .move (.tmp 19), none⟩])
 (.seq (.seq (.ops [⟨some 20, .move (.tmp 7), none⟩,
 ⟨some 21, .bin .lss (.tmp 20) (.const (.int .i64 0)), none⟩,
 ⟨some 22, .move (.tmp 21), none⟩,
 ⟨some 23, .move (.tmp 7), some (22, false)⟩,
 ⟨some 24, .bin .geq (.tmp 23) (.const (.int .i64 64)), some (22, false)⟩,
 ⟨some 25, .pick (.tmp 22) (.const (.bool true)) (.tmp 24), none⟩,
 ⟨some 26, .move (.tmp 25), none⟩,
 ⟨some 27, .move (.tmp 7), some (26, false)⟩,
 ⟨some 28, .idxArr 64 1 (.tmp 3) (.tmp 27), some (26, false)⟩,
 ⟨some 29, .load1 (.tmp 28), some (26, false)⟩,
 ⟨some 30, .pick (.tmp 26) (.const (.bool true)) (.tmp 29), none⟩])
 (.cond (.tmp 30)
 (.seq (.ops [⟨some 2, .move (.const (.bool false)), none⟩])
 (.ret))
 (.skip)))
 (.ops [⟨some 31, .move (.tmp 7), none⟩,
 ⟨some 32, .idxArr 64 1 (.tmp 3) (.tmp 31), none⟩,
 ⟨none, .store 1 (.tmp 32) (.const (.bool true)), none⟩]))))
 (.ops [⟨some 33, .bin .add (.tmp 16) (.const (.int .i64 1)), none⟩,
 ⟨some 16, .move (.tmp 33), none⟩])))))))))
 (.ops [⟨some 34, .bin .add (.tmp 10) (.const (.int .i64 1)), none⟩,
 ⟨some 10, .move (.tmp 34), none⟩])))))))
 (.seq (.ops [⟨some 2, .move (.const (.bool true)), none⟩])
 (.ret))))⟩
/-- A context has these functions. -/
structure HasMembers (c : Ctx) : Prop where
 members_New : c.IP (c.F 97) = some (c_members_New c.F c.Ty)
 members_Members_Epoch : c.IP (c.F 98) = some (c_members_Members_Epoch c.F c.Ty)
 members_Members_Servers : c.IP (c.F 100) = some (c_members_Members_Servers c.F c.Ty)
 members_Members_Fail : c.IP (c.F 103) = some (c_members_Members_Fail c.F c.Ty)
 members_Members_Swap : c.IP (c.F 104) = some (c_members_Members_Swap c.F c.Ty)
 members_Members_Done : c.IP (c.F 105) = some (c_members_Members_Done c.F c.Ty)
 members_group : c.IP (c.F 108) = some (c_members_group c.F c.Ty)
 members_list : c.IP (c.F 109) = some (c_members_list c.F c.Ty)
 slices_Index_int_int : c.IP (c.F 110) = some (c_slices_Index_int_int c.F c.Ty)
 members_apart : c.IP (c.F 111) = some (c_members_apart c.F c.Ty)

end Go.Proofs.YtndndcdblfejnaaGreatRI
namespace Go.Proofs.YtndndcdblfejnaaGreatRI
set_option linter.unusedSimpArgs false
set_option linter.unusedVariables false
open Go

/-- A number's place; -1: none. -/
def atI (l : List Int) (n : Int) : Int := match l.findIdx? (fun x => decide (x = n)) with
  | some i => i
  | none => -1
theorem atI_none {l : List Int} {n : Int} (h : n ∉ l) : atI l n = -1 := by
  unfold atI
  have : l.findIdx? (fun x => decide (x = n)) = none := by
    rw [List.findIdx?_eq_none_iff]
    intro x hx
    simp only [decide_eq_false_iff_not]
    rintro rfl; exact h hx
  rw [this]
theorem atI_first {l : List Int} {n : Int} {i : Nat} (hi : i < l.length) (h : l[i] = n) (hf : ∀ j (hj : j < i), l[j]'(by omega) ≠ n) : atI l n = i := by
  unfold atI
  have : l.findIdx? (fun x => decide (x = n)) = some i := by
    rw [List.findIdx?_eq_some_iff_getElem]
    refine ⟨hi, by simpa using h, fun j hj => by simpa using hf j hj⟩
  rw [this]
theorem atI_mem {l : List Int} {n : Int} (h : n ∈ l) : ∃ i : Nat, ∃ hi : i < l.length, atI l n = i ∧ l[i] = n := by
  unfold atI
  cases hf : l.findIdx? (fun x => decide (x = n)) with
  | none =>
    rw [List.findIdx?_eq_none_iff] at hf
    have := hf n h
    simp at this
  | some i =>
    rw [List.findIdx?_eq_some_iff_getElem] at hf
    obtain ⟨hi, h1, _⟩ := hf
    exact ⟨i, hi, rfl, by simpa using h1⟩
theorem atI_neg {l : List Int} {n : Int} : atI l n < 0 ↔ n ∉ l := by
  constructor
  · intro h hm
    obtain ⟨i, _, e, _⟩ := atI_mem hm
    omega
  · intro h; rw [atI_none h]; omega
theorem atI_lt (l : List Int) (n : Int) : -1 ≤ atI l n ∧ atI l n < l.length := by
  by_cases h : n ∈ l
  · obtain ⟨i, hi, e, _⟩ := atI_mem h
    omega
  · rw [atI_none h]; omega

/-- All of 0 to 63, no two the same. -/
def apart : List Int → Bool
  | [] => true
  | x :: l => decide (0 ≤ x) && (decide (x < 64) && (decide (x ∉ l) && apart l))
def Apart (l : List Int) : Prop := (∀ x ∈ l, 0 ≤ x ∧ x < 64) ∧ l.Nodup
theorem apart_iff : ∀ l : List Int, apart l = true ↔ Apart l
  | [] => by simp [apart, Apart]
  | x :: l => by
    have ih := apart_iff l
    simp only [apart, Apart, Bool.and_eq_true, decide_eq_true_eq, List.mem_cons, List.nodup_cons, forall_eq_or_imp] at ih ⊢
    rw [ih]
    constructor
    · rintro ⟨h1, h2, h3, h4, h5⟩; exact ⟨⟨⟨h1, h2⟩, h4⟩, h3, h5⟩
    · rintro ⟨⟨⟨h1, h2⟩, h4⟩, h3, h5⟩; exact ⟨h1, h2, h3, h4, h5⟩
theorem apart_len {l : List Int} (h : Apart l) : l.length ≤ 64 := by
  have : ∀ (n : Nat) (l : List Int), (∀ x ∈ l, 0 ≤ x ∧ x < n) → l.Nodup → l.length ≤ n := by
    intro n
    induction n with
    | zero =>
      intro l h1 _
      cases l with
      | nil => simp
      | cons x l => have := h1 x (by simp); omega
    | succ n ih =>
      intro l h1 h2
      by_cases hm : (n : Int) ∈ l
      · have h3 := ih (l.erase n) (fun x hx => by
          have h4 := h1 x (List.mem_of_mem_erase hx)
          have h5 : x ≠ n := by
            rintro rfl
            exact (List.Nodup.not_mem_erase h2) hx
          omega) (h2.erase _)
        rw [List.length_erase_of_mem hm] at h3
        omega
      · have h3 := ih l (fun x hx => by
          have h4 := h1 x hx
          have h5 : x ≠ n := by rintro rfl; exact hm hx
          omega) h2
        omega
  exact this 64 l h.1 h.2
theorem apart_snoc {l : List Int} {x : Int} : Apart (l ++ [x]) ↔ Apart l ∧ 0 ≤ x ∧ x < 64 ∧ x ∉ l := by
  unfold Apart
  rw [List.nodup_append]
  constructor
  · rintro ⟨h1, h2, _, h4⟩
    refine ⟨⟨fun y hy => h1 y (by simp [hy]), h2⟩, (h1 x (by simp)).1, (h1 x (by simp)).2, fun hx => h4 x hx x (by simp) rfl⟩
  · rintro ⟨⟨h1, h2⟩, h3, h4, h5⟩
    refine ⟨fun y hy => ?_, h2, by simp, fun y hy z hz => ?_⟩
    · rcases List.mem_append.1 hy with h | h
      · exact h1 y h
      · simp at h; subst h; exact ⟨h3, h4⟩
    · simp at hz; subst hz; rintro rfl; exact h5 hy
theorem Apart.left {l m : List Int} (h : Apart (l ++ m)) : Apart l := ⟨fun x hx => h.1 x (by simp [hx]), (List.nodup_append.1 h.2).1⟩
theorem Apart.right {l m : List Int} (h : Apart (l ++ m)) : Apart m := ⟨fun x hx => h.1 x (by simp [hx]), (List.nodup_append.1 h.2).2.1⟩

structure Mem where
  L : List Int
  S : List Int
  e : Int
  h : Int
  f : Bool
  g : Int
/-- What a group is, always. -/
structure Mem.ok (m : Mem) : Prop where
  two : 2 ≤ m.L.length
  eight : m.L.length ≤ 8
  ap : Apart (m.L ++ m.S)
  ep : 1 ≤ m.e ∧ m.e < 9223372036854775808
  h1 : -1 ≤ m.h
  h2 : m.h < m.L.length
  fh : m.f = true → 0 ≤ m.h
  gr : -1 ≤ m.g ∧ m.g < 64
theorem Mem.ok.sl {m : Mem} (h : m.ok) : m.S.length ≤ 64 := by have := apart_len h.ap.right; exact this

def Mem.fail (m : Mem) (s e : Int) : Mem × Int :=
  if atI m.L s < 0 then (m, 7) else if 0 ≤ m.h then (m, 9) else if e ≠ m.e then (m, 10) else ({ m with h := atI m.L s, g := s, f := false, e := m.e + 1 }, 0)
def Mem.swap (m : Mem) (e : Int) : Mem × Int × Int :=
  match m.S with
  | [] => (m, 0, 7)
  | s :: r => if e ≠ m.e then (m, 0, 10) else if m.h < 0 ∨ m.f = true then (m, 0, 16) else ({ m with L := m.L.set m.h.toNat s, S := r, f := true, e := m.e + 1 }, s, 0)
def Mem.done (m : Mem) (e : Int) : Mem × Int :=
  if e ≠ m.e then (m, 10) else if m.h < 0 ∨ m.f = false then (m, 16) else ({ m with h := -1, g := -1, f := false, e := m.e + 1 }, 0)
def Mem.add (m : Mem) (s : Int) : Mem × Int :=
  if s < 0 ∨ 63 < s then (m, 1) else if 0 ≤ atI m.L s ∨ 0 ≤ atI m.S s ∨ s = m.g then (m, 6) else ({ m with S := m.S ++ [s] }, 0)

theorem Mem.ok.fail {m : Mem} (h : m.ok) (hb : m.e < 4611686018427387904) (s e : Int) : (m.fail s e).1.ok := by
  unfold Mem.fail
  repeat' split
  · exact h
  · exact h
  · exact h
  · have ha := atI_lt m.L s
    have hm : s ∈ m.L := by rename_i h1 _ _; exact Classical.byContradiction fun hn => h1 (atI_neg.2 hn)
    have hs := h.ap.1 s (by simp [hm])
    exact ⟨h.two, h.eight, h.ap, by simp only; have := h.ep; omega, by simp only; omega, ha.2, by simp, by simp only; omega⟩
theorem Mem.ok.done {m : Mem} (h : m.ok) (hb : m.e < 4611686018427387904) (e : Int) : (m.done e).1.ok := by
  unfold Mem.done
  repeat' split
  · exact h
  · exact h
  · exact ⟨h.two, h.eight, h.ap, by simp only; have := h.ep; omega, by simp, by simp only; have := h.two; omega, by simp, by simp⟩
theorem Mem.ok.add {m : Mem} (h : m.ok) (s : Int) : (m.add s).1.ok := by
  unfold Mem.add
  repeat' split
  · exact h
  · exact h
  · rename_i h1 h2
    have q1 : s ∉ m.L := atI_neg.1 (by omega)
    have q2 : s ∉ m.S := atI_neg.1 (by omega)
    refine ⟨h.two, h.eight, ?_, h.ep, h.h1, h.h2, h.fh, h.gr⟩
    simp only
    rw [← List.append_assoc, apart_snoc]
    exact ⟨h.ap, by omega, by omega, by simp [q1, q2]⟩
theorem Mem.ok.swap {m : Mem} (h : m.ok) (hb : m.e < 4611686018427387904) (e : Int) : (m.swap e).1.ok := by
  unfold Mem.swap
  split
  · exact h
  · rename_i s r hS
    repeat' split
    · exact h
    · exact h
    · rename_i h1 h2
      have hap := h.ap
      rw [hS] at hap
      refine ⟨by simp; exact h.two, by simp; exact h.eight, ?_, by simp only; have := h.ep; omega, h.h1, by simp; exact h.h2, fun _ => by simp only; omega, h.gr⟩
      obtain ⟨a1, a2⟩ := hap
      rw [List.nodup_append] at a2
      obtain ⟨a2, a3, a4⟩ := a2
      rw [List.nodup_cons] at a3
      have hsL : s ∉ m.L := fun hx => a4 s hx s (by simp) rfl
      refine ⟨fun x hx => ?_, ?_⟩
      · rcases List.mem_append.1 hx with hx | hx
        · rcases List.mem_or_eq_of_mem_set hx with hx | rfl
          · exact a1 x (by simp [hx])
          · exact a1 x (by simp)
        · exact a1 x (by simp [hx])
      · rw [List.nodup_append]
        refine ⟨?_, a3.2, fun x hx y hy => ?_⟩
        · rw [List.nodup_iff_pairwise_ne] at a2 ⊢
          rw [List.pairwise_iff_getElem] at a2 ⊢
          intro i j hi hj hij
          simp only [List.length_set] at hi hj
          rw [List.getElem_set, List.getElem_set]
          split
          · split
            · omega
            · intro h; apply hsL; rw [h]; exact List.getElem_mem _
          · split
            · intro h; apply hsL; rw [← h]; exact List.getElem_mem _
            · exact a2 i j hi hj hij
        · rcases List.mem_or_eq_of_mem_set hx with hx | rfl
          · exact a4 x hx y (by simp [hy])
          · rintro rfl; exact a3.1 hy

end Go.Proofs.YtndndcdblfejnaaGreatRI
namespace Go.Proofs.YtndndcdblfejnaaGreatRI
attribute [local simp] J0 J1 J2 J3 J4 J5 J6 J7 J8 J9 Ja Jb Jc Jd Je Jf Jg Jh Ji Jj Jk Jl Jm Jn Jo Jp Jq Jr Js Jt Ju Jv Jw Jx Jy Jz JA JB JC JD JE JF JG JH JI JJ JK JL JM JN JO JP JQ JR JS stillI IOp.kind JT JU JV JW JX JY JZ Y0 Y1 Y2 Y3 Y4 Y5 Y6 Y7 Y8 Y9 Ya Yb Yc Yd Ye Yf Yg Yh Yi Yj Yk Yl Ym Yn Yo Yp Yq ial Yr Ys Yt Yu Yv Yw Yx Yy ires iresL ires1 Yz YA YB YC YD YE bin2 YF YG YH YI YJ YK YL YM YN YO YP YQ YR YS YT YU un1 shOk eqL eq1 fillL putAt IHeap.load1 IHeap.loadL IHeap.storeL YV YW YX YY YZ B0 B1 B2 B3 B4 B5 B6 B7 B8 B9 Ba Bb Bc Bd Be Bf Bg Bh Bi Bj Bk Bl Bm Bn Bo Bp
set_option linter.unusedSimpArgs false
set_option linter.unusedVariables false
open Go

def iV (n : Int) : Value := .int .i64 n
theorem flat_rowI : ∀ l : List Int, (l.map rowI).flatten = l.map iV
  | [] => rfl
  | x :: l => by rw [List.map_cons, List.flatten_cons, flat_rowI l]; rfl
theorem all_rowI (l : List Int) : (l.map rowI).flatten.all one1 = true := by
  rw [flat_rowI, List.all_eq_true]
  intro x hx
  obtain ⟨n, _, rfl⟩ := List.mem_map.1 hx
  rfl
theorem take_iV {cs : List Value} {o : Nat} {l : List Int} (h : (cs.drop o).take l.length = l.map iV) {i : Nat} (hi : i < l.length) : cs[o + i]? = some (.int .i64 l[i]) := by
  have : ((cs.drop o).take l.length)[i]? = some (iV l[i]) := by rw [h]; simp [hi]
  rw [List.getElem?_take, if_pos hi, List.getElem?_drop] at this
  exact this

/-- Spares, in an object. -/
def Sp (H : IHeap) (q : Nat) (v : Value) (l : List Int) : Prop :=
  (l = [] ∧ v = .slice none 0 0) ∨ ∃ o cs ro, q < H.next ∧ H.get q = some (.cells cs ro) ∧ (cs.drop o).take l.length = l.map iV ∧ o + l.length ≤ cs.length ∧
    ((v = .slice (some ⟨q, o, none⟩) l.length l.length ∧ l.length < UNK) ∨ (v = .slice (some ⟨q, o, none⟩) l.length (UNK + 1) ∧ ro = false ∧ o + l.length = cs.length))

theorem slr_ints {H : IHeap} {q o cap : Nat} {cs : List Value} {ro : Bool} {l : List Int} (hq : q < H.next) (hg : H.get q = some (.cells cs ro)) (ht : (cs.drop o).take l.length = l.map iV) (hb : o + l.length ≤ cs.length) : SlR H 1 (.slice (some ⟨q, o, none⟩) l.length cap) (l.map rowI) := by
  refine ⟨_, cap, by rw [List.length_map], fun _ => ⟨q, o, cs, ro, rfl, hq, hg, fun i r hr => ?_⟩⟩
  obtain ⟨hi, hri⟩ := List.getElem?_eq_some_iff.1 hr
  simp only [List.length_map] at hi
  simp only [List.getElem_map] at hri
  subst hri
  have := take_iV ht hi
  refine ⟨rfl, ?_, by omega⟩
  rw [Nat.mul_one]
  obtain ⟨h1, h2⟩ := List.getElem?_eq_some_iff.1 this
  rw [List.drop_eq_getElem_cons h1, h2]; rfl

theorem Sp.slw {H : IHeap} {q : Nat} {v : Value} {l : List Int} (h : Sp H q v l) : SlW H 1 v (l.map rowI) := by
  rcases h with ⟨rfl, rfl⟩ | ⟨o, cs, ro, h1, h2, h3, h4, ⟨rfl, h5⟩ | ⟨rfl, h5, h6⟩⟩
  · exact SlW.nil H 1
  · exact ⟨slr_ints h1 h2 h3 h4, _, _, by rw [List.length_map], .inr ⟨_, _, rfl⟩, .inl ⟨h5, by rw [List.length_map]; exact Nat.le_refl _⟩⟩
  · exact ⟨slr_ints h1 h2 h3 h4, _, _, by rw [List.length_map], .inr ⟨_, _, rfl⟩, .inr ⟨rfl, by simp⟩⟩
theorem Sp.same {H H' : IHeap} {q : Nat} {v : Value} {l : List Int} (h : Sp H q v l) (hn : H.next ≤ H'.next) (hg : H'.get q = H.get q) : Sp H' q v l := by
  rcases h with h | ⟨o, cs, ro, h1, h2, h3, h4, h5⟩
  · exact .inl h
  · exact .inr ⟨o, cs, ro, by omega, hg.trans h2, h3, h4, h5⟩
theorem Sp.le {H H' : IHeap} {q : Nat} {v : Value} {l : List Int} (h : Sp H q v l) (hl : H.le H') : Sp H' q v l := by
  rcases h with h | ⟨o, cs, ro, h1, h2, h3, h4, h5⟩
  · exact .inl h
  · exact .inr ⟨o, cs, ro, by have := hl.next; omega, (hl.get q h1).trans h2, h3, h4, h5⟩
theorem Sp.tail {H : IHeap} {q n cap : Nat} {a : Option Addr} {s : Int} {l : List Int} (h : Sp H q (.slice a n cap) (s :: l)) : ∃ v', sliceI H 1 a n cap 1 n none = some v' ∧ Sp H q v' l := by
  rcases h with ⟨h, _⟩ | ⟨o, cs, ro, h1, h2, h3, h4, h5⟩
  · cases h
  · have ht : (cs.drop (o + 1)).take l.length = l.map iV := by
      rw [List.length_cons, List.map_cons] at h3
      have : (cs.drop (o + 1)).take l.length = (((cs.drop o).take (l.length + 1)).drop 1) := by
        rw [List.drop_take, List.drop_drop]; simp
      rw [this, h3]; rfl
    simp only [List.length_cons] at h4 h5
    rcases h5 with ⟨e, h5⟩ | ⟨e, h5, h6⟩
    · simp only [Value.slice.injEq] at e
      obtain ⟨rfl, rfl, rfl⟩ := e
      by_cases hl : l = []
      · subst hl
        refine ⟨.slice (some ⟨q, o, none⟩) 0 0, ?_, .inr ⟨o, cs, ro, h1, h2, by simp, by simp; omega, .inl ⟨rfl, by simp [UNK]⟩⟩⟩
        simp [sliceI, UNK]
      · have hp : 0 < l.length := List.length_pos_iff.2 hl
        refine ⟨.slice (some ⟨q, o + 1, none⟩) l.length l.length, ?_, .inr ⟨o + 1, cs, ro, h1, h2, ht, by omega, .inl ⟨rfl, by omega⟩⟩⟩
        simp only [sliceI, h5, if_true, Option.getD_none, Nat.le_refl, and_self, Nat.add_sub_cancel]
        rw [if_neg (by omega), addr_add, Nat.one_mul]
    · simp only [Value.slice.injEq] at e
      obtain ⟨rfl, rfl, rfl⟩ := e
      have hU : ¬ (UNK + 1 < UNK) := by omega
      refine ⟨.slice (some ⟨q, o + 1, none⟩) l.length (UNK + 1), ?_, .inr ⟨o + 1, cs, ro, h1, h2, ht, by omega, .inr ⟨rfl, h5, by omega⟩⟩⟩
      simp [sliceI, hU]
theorem Sp.head {H : IHeap} {q : Nat} {v : Value} {s : Int} {l : List Int} (h : Sp H q v (s :: l)) : ∃ o cap cs ro, v = .slice (some ⟨q, o, none⟩) (l.length + 1) cap ∧ q < H.next ∧ H.get q = some (.cells cs ro) ∧ cs[o]? = some (.int .i64 s) := by
  rcases h with ⟨h, _⟩ | ⟨o, cs, ro, h1, h2, h3, h4, h5⟩
  · cases h
  · have := take_iV h3 (i := 0) (by simp)
    simp only [Nat.add_zero, List.getElem_cons_zero] at this
    rcases h5 with ⟨rfl, _⟩ | ⟨rfl, _⟩
    · exact ⟨o, _, cs, ro, rfl, h1, h2, this⟩
    · exact ⟨o, _, cs, ro, rfl, h1, h2, this⟩
theorem Sp.append {H : IHeap} {q : Nat} {v : Value} {l : List Int} (h : Sp H q v l) (hl : l.length ≤ 1000000) (x : Int) :
    ∃ v' H', appendI H 1 8 v 1 [.int .i64 x] = some (v', H') ∧ Sp H' H.next v' (l ++ [x]) ∧ IHeap.upd [q] H H' ∧ H.next < H'.next := by
  have hb : (l.length + 1) * 8 ≤ 140737488355328 ∧ l.length + 1 ≤ 140737488355328 := by omega
  have fin : ∀ H', H'.get H.next = some (.cells (l.map iV ++ [.int .i64 x]) false) → H.next < H'.next → Sp H' H.next (.slice (some ⟨H.next, 0, none⟩) (l.length + 1) (UNK + 1)) (l ++ [x]) := by
    intro H' hg hn
    refine .inr ⟨0, _, false, hn, hg, ?_, by simp, .inr ⟨by simp, rfl, by simp⟩⟩
    rw [List.drop_zero, List.take_of_length_le (by simp)]; simp [iV]
  rcases h with ⟨rfl, rfl⟩ | ⟨o, cs, ro, h1, h2, h3, h4, ⟨rfl, h5⟩ | ⟨rfl, h5, h6⟩⟩
  · refine ⟨_, H.alloc (.cells [.int .i64 x] false), ?_, fin _ (by simp [YV]) (by simp [YX]), (H.le_alloc _).upd _, by simp [YX]⟩
    simp [appendI]
  · refine ⟨_, H.alloc (.cells (l.map iV ++ [.int .i64 x]) false), ?_, fin _ (by simp [YV]) (by simp [YX]), (H.le_alloc _).upd _, by simp [YX]⟩
    have hf : firstI H 1 l.length (.slice (some ⟨q, o, none⟩) l.length l.length) = some (l.map iV) := by
      simp only [firstI, IHeap.loadL, h2, Nat.mul_one]
      by_cases hz : l.length = 0
      · rw [if_pos hz]; simp [List.length_eq_zero_iff.1 hz]
      · rw [if_neg hz, if_pos h4, h3]
    simp only [appendI]
    rw [if_pos ⟨hb.1, hb.2, by omega, by omega, rfl⟩, if_neg (by omega), if_neg (by omega)]
    simp only [hf, h5, if_true]
  · subst h5
    refine ⟨_, (H.set q .dead).alloc (.cells (l.map iV ++ [.int .i64 x]) false), ?_, fin _ (by simp [YV, YY]) (by simp [YX, YY]), ((IHeap.upd_refl _ H).set (.inr (by simp)) _).alloc _, by simp [YX, YY]⟩
    have hf : firstI H 1 l.length (.slice (some ⟨q, o, none⟩) l.length (UNK + 1)) = some (l.map iV) := by
      simp only [firstI, IHeap.loadL, h2, Nat.mul_one]
      by_cases hz : l.length = 0
      · rw [if_pos hz]; simp [List.length_eq_zero_iff.1 hz]
      · rw [if_neg hz, if_pos h4, h3]
    have hU : ¬ (UNK + 1 < UNK) := by omega
    simp only [appendI]
    rw [if_pos ⟨hb.1, hb.2, by omega, by omega, rfl⟩, if_neg (by omega), if_neg (fun h => hU h.1)]
    simp only [hf, if_neg hU, if_true, h2]
    rw [if_pos (by rfl), if_neg (by omega), if_pos (by omega)]

section
variable (c : Ctx) (hc : HasMembers c) {H : IHeap} {K : Value → IHeap → Prop}
include hc

theorem list_ok {l : List Int} {u : Value} (hs : SlW H 1 u (l.map rowI)) (hl : l.length ≤ 1000000000) (hK : ∀ H', H.le H' → H'.next = H.next + 1 → H'.get H.next = some (.cells (l.map iV) false) → K (.slice (some ⟨H.next, 0, none⟩) l.length l.length) H') : c.C (c.F n_members_list) [u] H K := by
  refine c.enter hc.members_list rfl ?_
  have hs' := hs
  obtain ⟨a, cap, rfl⟩ := hs.len
  simp only [List.length_map] at hs' ⊢
  have b1 : (0 : Int) ≤ (l.length : Int) ∧ (l.length : Int) ≤ 17592186044416 ∧ (l.length : Int) * 8 ≤ 17592186044416 := by omega
  simp -implicitDefEqProofs [c_members_list, b1, lenOfI, Nat.min_self]
  have hf := (hs'.le (H.le_alloc (.cells (List.map (fun x => [Value.int .i64 0][x % 1]?.getD default) (List.range l.length)) false))).first (by omega)
  rw [flat_rowI, List.length_map] at hf
  cases l with
  | nil =>
    simp only [List.length_nil, List.range_zero, List.map_nil] at hf
    simp -implicitDefEqProofs [hf]
    exact hK (H.alloc (.cells [] false)) (H.le_alloc _) rfl (by simp [YV])
  | cons x l =>
    have hone : ∀ v ∈ (x :: l).map iV, one1 v = true := by
      intro v hv
      obtain ⟨n, _, rfl⟩ := List.mem_map.1 hv
      rfl
    obtain ⟨cs, hcs⟩ : ∃ cs, cs = (x :: l).map iV := ⟨_, rfl⟩
    rw [← hcs] at hf hone hK
    have hlen : cs.length = (x :: l).length := by rw [hcs, List.length_map]
    have hne : cs ≠ [] := by rw [hcs]; simp
    have hle : cs.length ≤ (x :: l).length := by omega
    simp only [List.length_cons] at hf hle
    have hall := eq_true hone
    simp -implicitDefEqProofs [hf, hne, hle, hall]
    have hd : List.drop cs.length (List.map (fun x => [Value.int .i64 0][x % 1]?.getD default) (List.range (l.length + 1))) = [] := List.drop_eq_nil_of_le (by simp [hlen])
    rw [hd, List.append_nil]
    refine hK ((H.alloc (.cells (List.map (fun x => [Value.int .i64 0][x % 1]?.getD default) (List.range (l.length + 1))) false)).set H.next (.cells cs false)) ((H.le_alloc _).set (Nat.le_refl _) _) rfl ?_
    rw [YW, if_pos rfl]

omit hc in
theorem atI_step {l : List Int} {n : Int} {i : Nat} (hi : i < l.length) (hf : ∀ j (hj : j < i), l[j]'(by omega) ≠ n) (h : l[i] ≠ n) : ∀ j (hj : j < i + 1), l[j]'(by omega) ≠ n := by
  intro j hj
  by_cases he : j = i
  · subst he; exact h
  · exact hf j (by omega)
omit hc in
theorem atI_all {l : List Int} {n : Int} (hf : ∀ j (hj : j < l.length), l[j] ≠ n) : atI l n = -1 := by
  refine atI_none fun hm => ?_
  obtain ⟨i, hi, e⟩ := List.getElem_of_mem hm
  exact hf i hi e

theorem Index_ok {l : List Int} {u : Value} {n : Int} (hs : SlW H 1 u (l.map rowI)) (hl : l.length ≤ 1000000000) (hK : K (.int .i64 (atI l n)) H) : c.C (c.F n_slices_Index_int_int) [u, .int .i64 n] H K := by
  refine c.enter hc.slices_Index_int_int rfl ?_
  have hs' := hs.1
  obtain ⟨a, cap, rfl⟩ := hs.len
  simp only [List.length_map] at hs' ⊢
  simp -implicitDefEqProofs [c_slices_Index_int_int]
  refine loop_nat c.mono (fun k T H' => ∃ i : Nat, ∃ hi : i ≤ l.length, k = l.length - i ∧ T 0 = .slice a l.length cap ∧ T 1 = .int .i64 n ∧ T 7 = .int .i64 l.length ∧ T 8 = .int .i64 i ∧ H' = H ∧ ∀ j (hj : j < i), l[j]'(by omega) ≠ n) l.length ?_ ?_
  · refine ⟨0, by omega, rfl, ?_⟩
    simp -implicitDefEqProofs []
  · rintro k T H' ⟨i, hi, rfl, t0, t1, t7, t8, rfl, hf⟩
    by_cases hil : i < l.length
    · have hil' : (i : Int) < (l.length : Int) := by omega
      obtain ⟨b, o, cp, cs, ro, e1, hb, hget, hat⟩ := hs'.at1 (i := i) (x := .int .i64 l[i]) (by simp [hil, rowI])
      simp only [Value.slice.injEq] at e1
      obtain ⟨rfl, -, rfl⟩ := e1
      have hw : IntKind.i64.wrap ((i : Int) + 1) = (i : Int) + 1 := wrap64 (by omega) (by omega)
      by_cases hx : l[i] = n
      · have hx' : n = l[i] := hx.symm
        rw [atI_first hil hx hf] at hK
        simp -implicitDefEqProofs [t0, t1, t7, t8, hil, hil', hget, hat, hx']
        exact hK
      · have hx' : ¬ n = l[i] := fun h => hx h.symm
        simp -implicitDefEqProofs [t0, t1, t7, t8, hil, hil', hget, hat, hx', hw]
        exact ⟨l.length - (i + 1), by omega, i + 1, rfl, by simp, by omega, atI_step hil hf hx⟩
    · have hil' : ¬ (i : Int) < (l.length : Int) := by omega
      simp -implicitDefEqProofs [t0, t1, t7, t8, hil, hil']
      rw [atI_all fun j hj => hf j (by omega)] at hK
      exact hK

omit hc in
theorem take_map_flat {α : Type} {l : List α} {f : α → List Int} {i : Nat} (hi : i < l.length) : ((l.take (i + 1)).map f).flatten = ((l.take i).map f).flatten ++ f l[i] := by
  rw [List.take_add_one, List.getElem?_eq_getElem hi]
  simp only [List.map_append, List.flatten_append, Option.toList_some, List.map_cons, List.map_nil, List.flatten_cons, List.flatten_nil, List.append_nil]

omit hc in
def SeenOk (cs : List Value) (dn : List Int) : Prop := cs.length = 64 ∧ ∀ n : Nat, n < 64 → cs[n]? = some (.bool (decide ((n : Int) ∈ dn)))
omit hc in
def upto (parts : List (Value × List Int)) (i : Nat) : List Int := ((parts.take i).map (·.2)).flatten
omit hc in
theorem SeenOk.put {cs : List Value} {dn : List Int} (h : SeenOk cs dn) {x : Int} (h0 : 0 ≤ x) (h1 : x < 64) : SeenOk (putAt cs x.toNat [.bool true]) (dn ++ [x]) := by
  obtain ⟨hl, hs⟩ := h
  have e : putAt cs x.toNat [.bool true] = cs.set x.toNat (.bool true) := by
    rw [List.set_eq_take_append_cons_drop, if_pos (by omega)]
    simp [putAt]
  rw [e]
  refine ⟨by simp [hl], fun n hn => ?_⟩
  rw [List.getElem?_set]
  by_cases hx : x.toNat = n
  · rw [if_pos hx, if_pos (by omega)]
    have : (n : Int) = x := by omega
    simp [this]
  · rw [if_neg hx, hs n hn]
    have : ¬ (n : Int) = x := by omega
    simp [this]

theorem apart_ok {u : Value} {parts : List (Value × List Int)} (hs : SlW H 1 u (parts.map fun p => [p.1])) (hp : ∀ p ∈ parts, SlW H 1 p.1 (p.2.map rowI)) (hl : parts.length ≤ 1000000) (hll : ∀ p ∈ parts, p.2.length ≤ 1000000000)
    (hK : ∀ H', H.le H' → K (.bool (apart (parts.map (·.2)).flatten)) H') : c.C (c.F n_members_apart) [u] H K := by
  refine c.enter hc.members_apart rfl ?_
  have hs' := hs.1
  obtain ⟨a, cap, rfl⟩ := hs.len
  simp only [List.length_map] at hs' ⊢
  simp -implicitDefEqProofs [c_members_apart]
  refine loop_nat c.mono (fun k T H' => ∃ (i : Nat) (cs : List Value), i ≤ parts.length ∧ k = parts.length - i ∧ T 3 = .pointer (some ⟨H.next, 0, none⟩) ∧ T 8 = .slice a parts.length cap ∧ T 9 = .int .i64 parts.length ∧ T 10 = .int .i64 i ∧ H.le H' ∧ H.next < H'.next ∧
    H'.get H.next = some (.cells cs false) ∧ SeenOk cs (upto parts i) ∧ Apart (upto parts i)) parts.length ?_ ?_
  · refine ⟨0, List.replicate 64 (.bool false), by omega, rfl, ?_⟩
    simp -implicitDefEqProofs []
    refine ⟨H.le_alloc _, ?_, by simp [Apart, upto]⟩
    have : SeenOk (List.replicate 64 (.bool false)) (upto parts 0) := ⟨by simp, fun n hn => by rw [List.getElem?_replicate, if_pos hn]; simp [upto]⟩
    exact this
  · rintro k T H' ⟨i, cs, hi, rfl, t3, t8, t9, t10, hle, hn, hg, hcs, hap⟩
    by_cases hil : i < parts.length
    · have hil' : (i : Int) < (parts.length : Int) := by omega
      obtain ⟨b, o, cp, cs0, ro, e1, hb, hget, hat⟩ := hs'.at1 (i := i) (x := parts[i].1) (by simp [hil])
      simp only [Value.slice.injEq] at e1
      obtain ⟨rfl, -, rfl⟩ := e1
      have hget' := (hle.get b hb).trans hget
      have hpi := hp parts[i] (by simp)
      have hli := hll parts[i] (by simp)
      obtain ⟨v, hv⟩ : ∃ v, v = parts[i].1 := ⟨_, rfl⟩
      obtain ⟨l, hl2⟩ : ∃ l, l = parts[i].2 := ⟨_, rfl⟩
      rw [← hv, ← hl2] at hpi
      rw [← hl2] at hli
      rw [← hv] at hat
      have hpi' := hpi.1
      obtain ⟨a2, cap2, rfl⟩ := hpi.len
      simp only [List.length_map] at hpi' hat
      have hwi : IntKind.i64.wrap ((i : Int) + 1) = (i : Int) + 1 := wrap64 (by omega) (by omega)
      have hnext : upto parts (i + 1) = upto parts i ++ l := by unfold upto; rw [take_map_flat hil, hl2]
      obtain ⟨dn, hdn⟩ : ∃ dn, dn = upto parts i := ⟨_, rfl⟩
      rw [← hdn] at hnext hap hcs
      have hall : ∃ rest, (parts.map (·.2)).flatten = dn ++ l ++ rest := by
        refine ⟨((parts.drop (i + 1)).map (·.2)).flatten, ?_⟩
        rw [← hnext]; unfold upto; rw [← List.flatten_append, ← List.map_append, List.take_append_drop]
      obtain ⟨rest, hall⟩ := hall
      simp -implicitDefEqProofs [t3, t8, t9, t10, hil, hil', hget', hat]
      refine loop_nat c.mono (fun k T H1 => ∃ (j : Nat) (cs : List Value), j ≤ l.length ∧ k = l.length - j ∧ T 3 = .pointer (some ⟨H.next, 0, none⟩) ∧ T 8 = .slice (some ⟨b, o, none⟩) parts.length cap ∧ T 9 = .int .i64 parts.length ∧ T 10 = .int .i64 i ∧ T 14 = .slice a2 l.length cap2 ∧ T 15 = .int .i64 l.length ∧ T 16 = .int .i64 j ∧
        H.le H1 ∧ H.next < H1.next ∧ H1.get H.next = some (.cells cs false) ∧ SeenOk cs (dn ++ l.take j) ∧ Apart (dn ++ l.take j)) l.length ?_ ?_
      · refine ⟨0, cs, by omega, rfl, ?_⟩
        simp -implicitDefEqProofs [t3, t8, t9, t10]
        exact ⟨hle, hn, hg, hcs, hap⟩
      · rintro k T H1 ⟨j, cs, hj, rfl, t3, t8, t9, t10, t14, t15, t16, hle, hn, hg, hcs, hap⟩
        have hcl := hcs.1
        by_cases hjl : j < l.length
        · have hjl' : (j : Int) < (l.length : Int) := by omega
          obtain ⟨b2, o2, cp2, cs2, ro2, e2, hb2, hget2, hat2⟩ := hpi'.at1 (i := j) (x := .int .i64 l[j]) (by simp [hjl, rowI])
          simp only [Value.slice.injEq] at e2
          obtain ⟨rfl, -, rfl⟩ := e2
          have hget2' := (hle.get b2 hb2).trans hget2
          have hwj : IntKind.i64.wrap ((j : Int) + 1) = (j : Int) + 1 := wrap64 (by omega) (by omega)
          have htk : l.take (j + 1) = l.take j ++ [l[j]] := by rw [List.take_add_one, List.getElem?_eq_getElem hjl]; rfl
          obtain ⟨x, hx⟩ : ∃ x, x = l[j] := ⟨_, rfl⟩
          rw [← hx] at hat2 htk
          have hbad : ¬ (0 ≤ x ∧ x < 64 ∧ x ∉ dn ++ l.take j) → apart (parts.map (·.2)).flatten = false := by
            intro hb
            rw [Bool.eq_false_iff]
            intro ht
            have h1 := (apart_iff _).1 ht
            rw [hall] at h1
            have h2 := h1.left
            have h3 : dn ++ l = (dn ++ l.take (j + 1)) ++ l.drop (j + 1) := by rw [List.append_assoc, List.take_append_drop]
            rw [h3] at h2
            have h4 := h2.left
            rw [htk, ← List.append_assoc, apart_snoc] at h4
            exact hb h4.2
          by_cases hx0 : x < 0
          · rw [hbad (by omega)] at hK
            simp -implicitDefEqProofs [t3, t8, t9, t10, t14, t15, t16, hjl, hjl', hget2', hat2, hx0]
            exact hK _ hle
          · by_cases hx1 : 64 ≤ x
            · rw [hbad (by omega)] at hK
              simp -implicitDefEqProofs [t3, t8, t9, t10, t14, t15, t16, hjl, hjl', hget2', hat2, hx0, hx1]
              exact hK _ hle
            · have hx0' : 0 ≤ x := by omega
              have hx1' : x < 64 := by omega
              have hc := hcs.2 x.toNat (by omega)
              have hxt : ((x.toNat : Nat) : Int) = x := by omega
              rw [hxt] at hc
              by_cases hm : x ∈ dn ++ l.take j
              · rw [hbad (fun h => h.2.2 hm)] at hK
                rw [decide_eq_true hm] at hc
                simp -implicitDefEqProofs [t3, t8, t9, t10, t14, t15, t16, hjl, hjl', hget2', hat2, hx0, hx1, hx0', hx1', hg, hc]
                exact hK _ hle
              · rw [decide_eq_false hm] at hc
                have hxl : x.toNat + 1 ≤ cs.length := by omega
                obtain ⟨hxl', hc2⟩ := List.getElem?_eq_some_iff.1 hc
                simp -implicitDefEqProofs [t3, t8, t9, t10, t14, t15, t16, hjl, hjl', hget2', hat2, hx0, hx1, hx0', hx1', hg, hc, hc2, hxl, hxl', hwj]
                have hput := hcs.put hx0' hx1'
                rw [List.append_assoc, ← htk] at hput
                refine ⟨l.length - (j + 1), by omega, j + 1, by omega, rfl, by simp, hle.set (Nat.le_refl _) _, hn, by simpa [putAt] using hput, ?_⟩
                rw [htk, ← List.append_assoc, apart_snoc]
                exact ⟨hap, hx0', hx1', hm⟩
        · have hje : j = l.length := by omega
          subst hje
          rw [List.take_length] at hap hcs
          simp -implicitDefEqProofs [t3, t8, t9, t10, t14, t15, t16, hwi]
          exact ⟨parts.length - (i + 1), by omega, i + 1, by omega, rfl, by simp, hle, hn, cs, hg, by rw [hnext]; exact hcs, by rw [hnext]; exact hap⟩
    · have hie : i = parts.length := by omega
      subst hie
      simp -implicitDefEqProofs [t3, t8, t9, t10]
      have e : upto parts parts.length = (parts.map (·.2)).flatten := by unfold upto; rw [List.take_length]
      rw [e] at hap
      have := (apart_iff _).2 hap
      rw [this] at hK
      exact hK _ hle

end
end Go.Proofs.YtndndcdblfejnaaGreatRI
namespace Go.Proofs.YtndndcdblfejnaaGreatRI
attribute [local simp] J0 J1 J2 J3 J4 J5 J6 J7 J8 J9 Ja Jb Jc Jd Je Jf Jg Jh Ji Jj Jk Jl Jm Jn Jo Jp Jq Jr Js Jt Ju Jv Jw Jx Jy Jz JA JB JC JD JE JF JG JH JI JJ JK JL JM JN JO JP JQ JR JS stillI IOp.kind JT JU JV JW JX JY JZ Y0 Y1 Y2 Y3 Y4 Y5 Y6 Y7 Y8 Y9 Ya Yb Yc Yd Ye Yf Yg Yh Yi Yj Yk Yl Ym Yn Yo Yp Yq ial Yr Ys Yt Yu Yv Yw Yx Yy ires iresL ires1 Yz YA YB YC YD YE bin2 YF YG YH YI YJ YK YL YM YN YO YP YQ YR YS YT YU un1 shOk eqL eq1 fillL putAt IHeap.load1 IHeap.loadL IHeap.storeL YV YW YX YY YZ B0 B1 B2 B3 B4 B5 B6 B7 B8 B9 Ba Bb Bc Bd Be Bf Bg Bh Bi Bj Bk Bl Bm Bn Bo Bp
set_option linter.unusedSimpArgs false
set_option linter.unusedVariables false
open Go

/-- A group, where it stands. -/
structure IsM (H : IHeap) (p q1 q2 : Nat) (m : Mem) : Prop where
  lt : p < H.next
  ok : m.ok
  rep : ∃ cap v2, H.get p = some (.cells [.slice (some ⟨q1, 0, none⟩) m.L.length cap, v2, .int .i64 m.e, .int .i64 m.h, .bool m.f, .int .i64 m.g] false) ∧ ((cap < UNK ∧ m.L.length ≤ cap) ∨ cap = UNK + 1) ∧ Sp H q2 v2 m.S
  lt1 : q1 < H.next
  get1 : H.get q1 = some (.cells (m.L.map iV) false)
  n12 : q1 ≠ q2
  np2 : p ≠ q2
  np1 : p ≠ q1

theorem IsM.le {H H' : IHeap} {p q1 q2 : Nat} {m : Mem} (h : IsM H p q1 q2 m) (hl : H.le H') : IsM H' p q1 q2 m := by
  obtain ⟨cap, v2, h1, h2, h3⟩ := h.rep
  exact ⟨Nat.lt_of_lt_of_le h.lt hl.next, h.ok, ⟨cap, v2, (hl.get p h.lt).trans h1, h2, h3.le hl⟩, Nat.lt_of_lt_of_le h.lt1 hl.next, (hl.get q1 h.lt1).trans h.get1, h.n12, h.np2, h.np1⟩
theorem IsM.servers {H : IHeap} {p q1 q2 : Nat} {m : Mem} (h : IsM H p q1 q2 m) {cap : Nat} (hc : (cap < UNK ∧ m.L.length ≤ cap) ∨ cap = UNK + 1) : SlW H 1 (.slice (some ⟨q1, 0, none⟩) m.L.length cap) (m.L.map rowI) := by
  refine ⟨slr_ints h.lt1 h.get1 (by rw [List.drop_zero, List.take_of_length_le (by simp)]) (by simp), _, _, by rw [List.length_map], .inr ⟨_, _, rfl⟩, ?_⟩
  rcases hc with ⟨h1, h2⟩ | h1
  · exact .inl ⟨h1, by rw [List.length_map]; exact h2⟩
  · exact .inr ⟨h1, by simp⟩

section
variable (c : Ctx) (hc : HasMembers c) {H : IHeap} {K : Value → IHeap → Prop}

include hc in
theorem group_ok {L S : List Int} {u v : Value} (hu : SlW H 1 u (L.map rowI)) (hv : SlW H 1 v (S.map rowI)) (hS : S.length ≤ 1000000000)
    (hK : ∀ H', H.le H' → K (.bool (decide (2 ≤ L.length) && (decide (L.length ≤ 8) && apart (L ++ S)))) H') : c.C (c.F n_members_group) [u, v] H K := by
  refine c.enter hc.members_group rfl ?_
  have hu' := hu
  have hv' := hv
  obtain ⟨a, cap, rfl⟩ := hu.len
  obtain ⟨a2, cap2, rfl⟩ := hv.len
  simp only [List.length_map] at hu' hv' ⊢
  by_cases h2 : 2 ≤ L.length
  · have h2' : (2 : Int) ≤ (L.length : Int) := by omega
    by_cases h8 : L.length ≤ 8
    · have h8' : (L.length : Int) ≤ 8 := by omega
      simp -implicitDefEqProofs [c_members_group, h2, h2', h8, h8', fillL, putAt]
      have hs : SlW (H.alloc (.cells [.slice a L.length cap, .slice a2 S.length cap2] false)) 1 (.slice (some ⟨H.next, 0, none⟩) 2 2) (([(.slice a L.length cap, L), (.slice a2 S.length cap2, S)] : List (Value × List Int)).map fun p => [p.1]) := by
        refine ⟨⟨_, 2, rfl, fun _ => ⟨H.next, 0, _, false, rfl, by simp [YX], by rw [YV, if_pos rfl], fun i r hr => ?_⟩⟩, _, _, rfl, .inr ⟨_, _, rfl⟩, .inl ⟨by simp [UNK], by simp⟩⟩
        match i, hr with
        | 0, hr => simp at hr; subst hr; simp
        | 1, hr => simp at hr; subst hr; simp
        | n + 2, hr => simp at hr
      refine call_of (apart_ok c hc hs (fun x hx => ?_) (by simp) (fun x hx => ?_) fun H1 h1 => ?_)
      · simp only [List.mem_cons, List.not_mem_nil, or_false] at hx
        rcases hx with rfl | rfl
        · exact hu'.le (H.le_alloc _)
        · exact hv'.le (H.le_alloc _)
      · simp only [List.mem_cons, List.not_mem_nil, or_false] at hx
        rcases hx with rfl | rfl
        · simp only; omega
        · exact hS
      · simp -implicitDefEqProofs []
        have := hK H1 ((H.le_alloc _).trans h1)
        simpa [h2, h8] using this
    · have h8' : ¬ (L.length : Int) ≤ 8 := by omega
      simp -implicitDefEqProofs [c_members_group, h2, h2', h8, h8']
      have := hK H (H.le_refl)
      simpa [h2, h8] using this
  · have h2' : ¬ (2 : Int) ≤ (L.length : Int) := by omega
    simp -implicitDefEqProofs [c_members_group, h2, h2']
    have := hK H (H.le_refl)
    simpa [h2] using this

include hc in
theorem MNew_ok {L S : List Int} {u v : Value} (hu : SlW H 1 u (L.map rowI)) (hv : SlW H 1 v (S.map rowI)) (hL : L.length ≤ 1000000000) (hS : S.length ≤ 1000000000)
    (h0 : ∀ H', H.le H' → ¬ (2 ≤ L.length ∧ L.length ≤ 8 ∧ Apart (L ++ S)) → K (.pointer none) H')
    (h1 : 2 ≤ L.length → L.length ≤ 8 → Apart (L ++ S) → ∀ p q1 q2 H', H.next ≤ p → H.next ≤ q1 → H.next ≤ q2 → H.le H' → q2 < H'.next → IsM H' p q1 q2 ⟨L, S, 1, -1, false, -1⟩ → K (.pointer (some ⟨p, 0, none⟩)) H') :
    c.C (c.F n_members_New) [u, v] H K := by
  refine c.enter hc.members_New rfl ?_
  simp -implicitDefEqProofs [c_members_New]
  refine call_of (group_ok c hc hu hv hS fun H1 k1 => ?_)
  by_cases hg : 2 ≤ L.length ∧ L.length ≤ 8 ∧ Apart (L ++ S)
  · obtain ⟨g1, g2, g3⟩ := hg
    have e : (decide (2 ≤ L.length) && (decide (L.length ≤ 8) && apart (L ++ S))) = true := by simp [g1, g2, (apart_iff _).2 g3]
    rw [e]
    simp -implicitDefEqProofs []
    refine call_of (list_ok c hc (hu.le k1) (by omega) fun H2 k2 n2 t2 => ?_)
    simp -implicitDefEqProofs []
    refine call_of (list_ok c hc (hv.le (k1.trans k2)) (by omega) fun H3 k3 n3 t3 => ?_)
    simp -implicitDefEqProofs [fillL, putAt]
    have n1 := k1.next
    refine h1 g1 g2 g3 H3.next H1.next H2.next _ (by omega) (by omega) (by omega) (((k1.trans k2).trans k3).alloc _) (by simp only [YX]; omega) ⟨by simp [YX], ?_, ⟨L.length, .slice (some ⟨H2.next, 0, none⟩) S.length S.length, by rw [YV, if_pos rfl], .inl ⟨by unfold UNK; omega, Nat.le_refl _⟩, ?_⟩, by simp only [YX]; omega, ?_, by omega, by omega, by omega⟩
    · exact ⟨g1, g2, g3, by simp, by simp, by simp only; omega, by simp, by simp⟩
    · refine .inr ⟨0, S.map iV, false, by simp only [YX]; omega, ?_, ?_, by simp, .inl ⟨rfl, by show S.length < UNK; unfold UNK; omega⟩⟩
      · rw [YV, if_neg (by omega)]; exact t3
      · rw [List.drop_zero, List.take_of_length_le (by simp)]
    · rw [YV, if_neg (by omega), k3.get _ (by omega)]; exact t2
  · have e : (decide (2 ≤ L.length) && (decide (L.length ≤ 8) && apart (L ++ S))) = false := by
      rw [Bool.eq_false_iff]
      intro ht
      simp only [Bool.and_eq_true, decide_eq_true_eq] at ht
      exact hg ⟨ht.1, ht.2.1, (apart_iff _).1 ht.2.2⟩
    rw [e]
    simp -implicitDefEqProofs []
    exact h0 _ k1 hg

include hc in
theorem MEpoch_ok {p q1 q2 : Nat} {m : Mem} (h : IsM H p q1 q2 m) (hK : K (.int .i64 m.e) H) : c.C (c.F n_members_Members_Epoch) [.pointer (some ⟨p, 0, none⟩)] H K := by
  refine c.enter hc.members_Members_Epoch rfl ?_
  obtain ⟨cap, v2, hg, _⟩ := h.rep
  simp -implicitDefEqProofs [c_members_Members_Epoch, nilOf, hg]
  exact hK
theorem tight_of {q : Nat} {l : List Int} (hq : q < H.next) (hg : H.get q = some (.cells (l.map iV) false)) (hl : l.length ≤ 1000000000) : SlW H 1 (.slice (some ⟨q, 0, none⟩) l.length l.length) (l.map rowI) :=
  ⟨slr_ints hq hg (by rw [List.drop_zero, List.take_of_length_le (by simp)]) (by simp), _, _, by rw [List.length_map], .inr ⟨_, _, rfl⟩, .inl ⟨by unfold UNK; omega, by rw [List.length_map]; exact Nat.le_refl _⟩⟩
include hc in
theorem MServers_ok {p q1 q2 : Nat} {m : Mem} (h : IsM H p q1 q2 m) (hK : ∀ v H', H.le H' → SlW H' 1 v (m.L.map rowI) → (∀ S : List Nat, (∀ b ∈ S, b < H.next) → Off v S) → K v H') : c.C (c.F n_members_Members_Servers) [.pointer (some ⟨p, 0, none⟩)] H K := by
  refine c.enter hc.members_Members_Servers rfl ?_
  obtain ⟨cap, v2, hg, hcap, _⟩ := h.rep
  have h8 := h.ok.eight
  simp -implicitDefEqProofs [c_members_Members_Servers, nilOf, hg]
  refine call_of (list_ok c hc (h.servers hcap) (by omega) fun H2 k2 n2 t2 => ?_)
  simp -implicitDefEqProofs []
  refine hK _ _ k2 (tight_of (by omega) t2 (by omega)) fun S hS b o n cc e hb => ?_
  simp only [Value.slice.injEq, Option.some.injEq, Addr.mk.injEq] at e
  have := hS b hb
  omega
include hc in
theorem MFail_ok {p q1 q2 : Nat} {m : Mem} {s e : Int} (h : IsM H p q1 q2 m) (hb : m.e < 4611686018427387904) (hK : ∀ H', IHeap.upd [p, q1, q2] H H' → H'.next = H.next → IsM H' p q1 q2 (m.fail s e).1 → K (.int .i64 (m.fail s e).2) H') :
    c.C (c.F n_members_Members_Fail) [.pointer (some ⟨p, 0, none⟩), .int .i64 s, .int .i64 e] H K := by
  refine c.enter hc.members_Members_Fail rfl ?_
  have hokf := h.ok.fail hb s e
  obtain ⟨cap, v2, hg, hcap, hsp⟩ := h.rep
  have h8 := h.ok.eight
  have hh1 := h.ok.h1
  have hep := h.ok.ep
  unfold Mem.fail at hK hokf
  simp -implicitDefEqProofs [c_members_Members_Fail, nilOf, hg]
  refine call_of (Index_ok c hc (h.servers hcap) (by omega) ?_)
  by_cases ha : atI m.L s < 0
  · rw [if_pos ha] at hK
    simp -implicitDefEqProofs [ha]
    exact hK _ (IHeap.upd_refl _ _) rfl h
  · rw [if_neg ha] at hK hokf
    by_cases hh : 0 ≤ m.h
    · rw [if_pos hh] at hK
      have hne : ¬ m.h = -1 := by omega
      simp -implicitDefEqProofs [ha, hg, hne]
      exact hK _ (IHeap.upd_refl _ _) rfl h
    · rw [if_neg hh] at hK hokf
      have hne : m.h = -1 := by omega
      by_cases he : e = m.e
      · rw [if_neg (by simpa using he)] at hK hokf
        have hw : IntKind.i64.wrap (m.e + 1) = m.e + 1 := wrap64 (by omega) (by omega)
        simp -implicitDefEqProofs [ha, hg, hne, he, hw]
        have n1 := h.np1
        have n2 := h.np2
        refine hK _ (((((IHeap.upd_refl _ H).set (.inr (by simp)) _).set (.inr (by simp)) _).set (.inr (by simp)) _).set (.inr (by simp)) _) rfl ⟨h.lt, hokf, ⟨cap, v2, by rw [YW, if_pos rfl], hcap, ?_⟩, h.lt1, ?_, h.n12, h.np2, h.np1⟩
        · refine hsp.same (Nat.le_refl _) ?_
          simp -implicitDefEqProofs [Ne.symm n2]
        · simp -implicitDefEqProofs [Ne.symm n1]
          exact h.get1
      · rw [if_pos he] at hK
        simp -implicitDefEqProofs [ha, hg, hne, he]
        exact hK _ (IHeap.upd_refl _ _) rfl h

include hc in
theorem MDone_ok {p q1 q2 : Nat} {m : Mem} {e : Int} (h : IsM H p q1 q2 m) (hb : m.e < 4611686018427387904) (hK : ∀ H', IHeap.upd [p, q1, q2] H H' → H'.next = H.next → IsM H' p q1 q2 (m.done e).1 → K (.int .i64 (m.done e).2) H') :
    c.C (c.F n_members_Members_Done) [.pointer (some ⟨p, 0, none⟩), .int .i64 e] H K := by
  refine c.enter hc.members_Members_Done rfl ?_
  have hokf := h.ok.done hb e
  obtain ⟨cap, v2, hg, hcap, hsp⟩ := h.rep
  have hep := h.ok.ep
  have hfh := h.ok.fh
  unfold Mem.done at hK hokf
  by_cases he : e = m.e
  · rw [if_neg (by simpa using he)] at hK hokf
    by_cases hf : m.f = true
    · have hno : ¬ (m.h < 0 ∨ m.f = false) := by have := hfh hf; simp [hf]; omega
      rw [if_neg hno] at hK hokf
      have hw : IntKind.i64.wrap (m.e + 1) = m.e + 1 := wrap64 (by omega) (by omega)
      simp -implicitDefEqProofs [c_members_Members_Done, nilOf, hg, he, hf, hw]
      have n1 := h.np1
      have n2 := h.np2
      refine hK _ (((((IHeap.upd_refl _ H).set (.inr (by simp)) _).set (.inr (by simp)) _).set (.inr (by simp)) _).set (.inr (by simp)) _) rfl ⟨h.lt, hokf, ⟨cap, v2, by rw [YW, if_pos rfl], hcap, ?_⟩, h.lt1, ?_, h.n12, h.np2, h.np1⟩
      · refine hsp.same (Nat.le_refl _) ?_
        simp -implicitDefEqProofs [Ne.symm n2]
      · simp -implicitDefEqProofs [Ne.symm n1]
        exact h.get1
    · have hf' : m.f = false := by simpa using hf
      rw [if_pos (.inr hf')] at hK
      simp -implicitDefEqProofs [c_members_Members_Done, nilOf, hg, he, hf']
      exact hK _ (IHeap.upd_refl _ _) rfl h
  · rw [if_pos he] at hK
    simp -implicitDefEqProofs [c_members_Members_Done, nilOf, hg, he]
    exact hK _ (IHeap.upd_refl _ _) rfl h

theorem putAt_iV {L : List Int} {i : Nat} (hi : i < L.length) (s : Int) : putAt (L.map iV) i [.int .i64 s] = (L.set i s).map iV := by
  rw [List.set_eq_take_append_cons_drop, if_pos hi]
  simp [putAt, List.map_take, List.map_drop, iV]

include hc in
theorem MSwap_ok {p q1 q2 : Nat} {m : Mem} {e : Int} (h : IsM H p q1 q2 m) (hb : m.e < 4611686018427387904) (hK : ∀ H', IHeap.upd [p, q1, q2] H H' → H'.next = H.next → IsM H' p q1 q2 (m.swap e).1 → K (.tuple #[.int .i64 (m.swap e).2.1, .int .i64 (m.swap e).2.2]) H') :
    c.C (c.F n_members_Members_Swap) [.pointer (some ⟨p, 0, none⟩), .int .i64 e] H K := by
  refine c.enter hc.members_Members_Swap rfl ?_
  have hokf := h.ok.swap hb e
  obtain ⟨cap, v2, hg, hcap, hsp⟩ := h.rep
  have hep := h.ok.ep
  have hh1 := h.ok.h1
  have hh2 := h.ok.h2
  have h64 := h.ok.sl
  have h8 := h.ok.eight
  unfold Mem.swap at hK hokf
  have hsp' := hsp
  obtain ⟨a, cap2, rfl⟩ := hsp.slw.len
  simp only [List.length_map] at hg hsp hsp'
  cases hS : m.S with
  | nil =>
    rw [hS] at hK hg
    simp only at hK
    simp -implicitDefEqProofs [c_members_Members_Swap, nilOf, hg]
    exact hK _ (IHeap.upd_refl _ _) rfl h
  | cons s r =>
    rw [hS] at hK hg hsp hokf h64
    simp only at hK hokf
    simp only [List.length_cons] at hg hsp
    have hz : ¬ ((r.length : Int) + 1 = 0) := by omega
    have hz' : (0 : Int) < (r.length : Int) + 1 := by omega
    by_cases he : e = m.e
    · rw [if_neg (by simpa using he)] at hK hokf
      by_cases hbad : m.h < 0 ∨ m.f = true
      · rw [if_pos hbad] at hK
        by_cases hh : m.h = -1
        · simp -implicitDefEqProofs [c_members_Members_Swap, nilOf, hg, hz, he, hh]
          exact hK _ (IHeap.upd_refl _ _) rfl h
        · have hf : m.f = true := hbad.resolve_left (by omega)
          simp -implicitDefEqProofs [c_members_Members_Swap, nilOf, hg, hz, he, hh, hf]
          exact hK _ (IHeap.upd_refl _ _) rfl h
      · rw [if_neg hbad] at hK hokf
        have hh : ¬ m.h = -1 := by omega
        have hh0 : 0 ≤ m.h := by omega
        have hf : m.f = false := by
          have : ¬ m.f = true := fun hx => hbad (.inr hx)
          simpa using this
        have hw : IntKind.i64.wrap (m.e + 1) = m.e + 1 := wrap64 (by omega) (by omega)
        obtain ⟨v', hsl, hspt⟩ := Sp.tail hsp
        have hspt' := hspt
        obtain ⟨a3, cap3, rfl⟩ := hspt'.slw.len
        simp only [List.length_map] at hsl hspt
        obtain ⟨o, cp, cs, ro, e1, hbn, hget, hat⟩ := hsp.head
        simp only [Value.slice.injEq] at e1
        obtain ⟨rfl, -, rfl⟩ := e1
        have n1 := h.np1
        have n2 := h.np2
        have hq1 := h.get1
        have hht : m.h.toNat < m.L.length := by omega
        have hst : m.h.toNat + 1 ≤ m.L.length := by omega
        have hput := putAt_iV hht s
        simp -implicitDefEqProofs [c_members_Members_Swap, nilOf, hg, hz, hz', he, hh, hf, hw, hget, hat, boundsI, natI, hsl, hh0, hh2, hq1, n1, Ne.symm n1, hst, Ne.symm n2]
        refine hK _ (((((IHeap.upd_refl _ H).set (.inr (by simp)) _).set (.inr (by simp)) _).set (.inr (by simp)) _).set (.inr (by simp)) _) rfl ⟨h.lt, hokf, ⟨cap, .slice a3 r.length cap3, ?_, by simpa using hcap, ?_⟩, h.lt1, ?_, h.n12, h.np2, h.np1⟩
        · rw [YW, if_pos rfl]; simp
        · refine hspt.same (Nat.le_refl _) ?_
          simp -implicitDefEqProofs [Ne.symm n2, Ne.symm h.n12]
        · simp -implicitDefEqProofs [Ne.symm n1]
          have : putAt (List.map iV m.L) m.h.toNat [.int .i64 s] = List.take m.h.toNat (List.map iV m.L) ++ Value.int .i64 s :: List.drop (m.h.toNat + 1) (List.map iV m.L) := by simp [putAt]
          rw [← this, hput]; simp [List.map_set]
    · rw [if_pos he] at hK
      simp -implicitDefEqProofs [c_members_Members_Swap, nilOf, hg, hz, he]
      exact hK _ (IHeap.upd_refl _ _) rfl h

/-- A list of lists, just made. -/
theorem made_of {ls : List (Value × List Int)} {b : Nat} (hb : b < H.next) (hg : H.get b = some (.cells (ls.map (·.1)) false)) (hl : ls.length ≤ 1000) : SlW H 1 (.slice (some ⟨b, 0, none⟩) ls.length ls.length) (ls.map fun p => [p.1]) := by
  refine ⟨⟨_, ls.length, by rw [List.length_map], fun _ => ⟨b, 0, _, false, rfl, hb, hg, fun i r hr => ?_⟩⟩, _, _, by rw [List.length_map], .inr ⟨_, _, rfl⟩, .inl ⟨by unfold UNK; omega, by rw [List.length_map]; exact Nat.le_refl _⟩⟩
  obtain ⟨hi, hri⟩ := List.getElem?_eq_some_iff.1 hr
  simp only [List.length_map] at hi
  simp only [List.getElem_map] at hri
  subst hri
  refine ⟨rfl, ?_, by simp; omega⟩
  rw [Nat.mul_one, Nat.zero_add, List.drop_eq_getElem_cons (by simpa using hi)]
  simp
theorem one_of {b : Nat} {x : Int} (hb : b < H.next) (hg : H.get b = some (.cells [.int .i64 x] false)) : SlW H 1 (.slice (some ⟨b, 0, none⟩) 1 1) ([x].map rowI) := tight_of (l := [x]) hb hg (by simp)

end
end Go.Proofs.YtndndcdblfejnaaGreatRI
namespace Go.Proofs.YtndndcdblfejnaaGreatRI
set_option linter.unusedSimpArgs false
set_option linter.unusedVariables false
open Go
/-- Not among some objects, and there already. -/
def Far (H : IHeap) (v : Value) (S : List Nat) : Prop := ∀ b o n c, v = .slice (some ⟨b, o, none⟩) n c → b ∉ S ∧ b < H.next
theorem Far.off {H : IHeap} {v : Value} {S : List Nat} (h : Far H v S) : Off v S := fun b o n c e => (h b o n c e).1
theorem Far.le {H H' : IHeap} {v : Value} {S : List Nat} (h : Far H v S) (hl : H.next ≤ H'.next) : Far H' v S := fun b o n c e => ⟨(h b o n c e).1, Nat.lt_of_lt_of_le (h b o n c e).2 hl⟩
theorem Far.more {H : IHeap} {v : Value} {S S' : List Nat} (h : Far H v S) (hs : ∀ b ∈ S', b ∈ S ∨ H.next ≤ b) : Far H v S' := fun b o n c e => by
  have h1 := h b o n c e
  exact ⟨fun hm => (hs b hm).elim h1.1 fun h2 => by omega, h1.2⟩
theorem app_ok {H : IHeap} {B : Nat} {u v : Value} {l old : List Int} (hu : SlW H 1 u (l.map rowI)) (hv : Grow H B 1 v (old.map rowI)) (hB : B ≤ H.next) (hl : l.length ≤ 1000000) (ho : old.length ≤ 1000000) :
    firstI H 1 l.length u = some (l.map iV) ∧ ∃ v' H', appendI H 1 8 v l.length (l.map iV) = some (v', H') ∧ Grow H' B 1 v' ((old ++ l).map rowI) ∧ IHeap.keep B H H' := by
  have h1 := hu.first (by omega)
  rw [flat_rowI, List.length_map] at h1
  refine ⟨h1, ?_⟩
  obtain ⟨v', H', e1, e2, e3⟩ := copied (bytes := 8) hu (by omega) (by omega) (all_rowI l) (by simp; omega) (by simp; omega) hv hB (by simp; omega) (by simp; omega)
  rw [flat_rowI, List.length_map] at e1
  exact ⟨v', H', e1, by rw [List.map_append]; exact e2, e3⟩
theorem Grow.off {H : IHeap} {B size : Nat} {v : Value} {rows : List (List Value)} (h : Grow H B size v rows) {S : List Nat} (hS : ∀ b ∈ S, b < B) : Off v S := by
  intro b o n cc e hb
  have := hS b hb
  rcases h with ⟨_, e'⟩ | ⟨_, blk, h1, _, e', _⟩
  · rw [e] at e'; simp at e'
  · rw [e] at e'
    simp only [Value.slice.injEq, Option.some.injEq, Addr.mk.injEq] at e'
    omega
theorem Grow.far {H H' : IHeap} {B size : Nat} {v : Value} {rows : List (List Value)} (h : Grow H B size v rows) (hn : H.next ≤ H'.next) {S : List Nat} (hS : ∀ b ∈ S, b < B) : Far H' v S := by
  intro b o n cc e
  refine ⟨h.off hS b o n cc e, ?_⟩
  rcases h with ⟨_, e'⟩ | ⟨_, blk, h1, h2, e', _⟩
  · rw [e] at e'; simp at e'
  · rw [e] at e'
    simp only [Value.slice.injEq, Option.some.injEq, Addr.mk.injEq] at e'
    omega

end Go.Proofs.YtndndcdblfejnaaGreatRI
