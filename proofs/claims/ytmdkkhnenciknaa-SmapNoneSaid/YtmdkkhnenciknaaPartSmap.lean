/- PRINTED by gen.py (this session's own): the intermediate form of some functions, and a context's having them. -/
import Derived.Test.YtmdkkhnenciknaaIdealY
namespace Go.Proofs.YtmdkkhnenciknaaI
set_option linter.unusedSimpArgs false
set_option linter.unusedVariables false
open Go

/-- hurdle/smap.New -/
abbrev n_smap_New : Nat := 132
/-- hurdle/smap.may -/
abbrev n_smap_may : Nat := 133
/-- hurdle/smap.group -/
abbrev n_smap_group : Nat := 134
/-- (*hurdle/smap.Map).Begin -/
abbrev n_smap_Map_Begin : Nat := 135
/-- (*hurdle/smap.Map).at -/
abbrev n_smap_Map_at : Nat := 136
/-- (*hurdle/smap.Map).Commit -/
abbrev n_smap_Map_Commit : Nat := 137
/-- (*hurdle/smap.Map).Free -/
abbrev n_smap_Map_Free : Nat := 138
/-- (*hurdle/smap.Map).which -/
abbrev n_smap_Map_which : Nat := 139
/-- (*hurdle/smap.Map).Drop -/
abbrev n_smap_Map_Drop : Nat := 140
/-- (*hurdle/smap.Map).Drop$1 -/
abbrev n_smap_Map_Drop_F1 : Nat := 141
/-- (*hurdle/smap.Map).Move -/
abbrev n_smap_Map_Move : Nat := 142
/-- (*hurdle/smap.Map).Get -/
abbrev n_smap_Map_Get : Nat := 143
/-- (*hurdle/smap.Map).List -/
abbrev n_smap_Map_List : Nat := 144
/-- (*hurdle/smap.Map).List$1 -/
abbrev n_smap_Map_List_F1 : Nat := 145
/-- (*hurdle/smap.Map).On -/
abbrev n_smap_Map_On : Nat := 146
/-- (*hurdle/smap.Map).On$1 -/
abbrev n_smap_Map_On_F1 : Nat := 147
/-- (*hurdle/smap.Map).Text -/
abbrev n_smap_Map_Text : Nat := 148
/-- (*hurdle/smap.Map).Text$1 -/
abbrev n_smap_Map_Text_F1 : Nat := 149
/-- (*hurdle/smap.Map).Text$2 -/
abbrev n_smap_Map_Text_F2 : Nat := 150
/-- (*hurdle/smap.Map).Text$3 -/
abbrev n_smap_Map_Text_F3 : Nat := 151
/-- hurdle/smap.Read -/
abbrev n_smap_Read : Nat := 152
/-- slices.Clone[[]int,int] -/
abbrev n_slices_Clone_int_int : Nat := 153
/-- slices.Index[[]int,int] -/
abbrev n_slices_Index_int_int : Nat := 110
/-- slices.Contains[[]int,int] -/
abbrev n_slices_Contains_int_int : Nat := 154
/-- hurdle/smap.New -/
def c_smap_New (F : Nat → FuncId) (Ty : Nat → TypeId) : IFunc := ⟨3, [.tmp 0],
 .seq (.ops [⟨some 0, .move (.const (.pointer none)), none⟩])
 (.seq (.ops [⟨some 1, .build [.slice none 0 0, .int .i64 0] [], none⟩,
 ⟨some 2, .box (.tmp 1), none⟩,
 ⟨some 0, .move (.tmp 2), none⟩])
 (.ret))⟩
/-- hurdle/smap.may -/
def c_smap_may (F : Nat → FuncId) (Ty : Nat → TypeId) : IFunc := ⟨31, [.tmp 2],
 .seq (.ops [⟨some 1, .box (.tmp 0), none⟩,
 ⟨some 2, .move (.const (.bool false)), none⟩])
 (.seq (.ops [⟨some 3, .fieldAddr 2 (.tmp 1), none⟩,
 ⟨some 4, .load1 (.tmp 3), none⟩,
 ⟨some 5, .bin .geq (.tmp 4) (.const (.int .i64 0)), none⟩,
 ⟨some 6, .move (.tmp 5), none⟩,
 ⟨some 7, .fieldAddr 2 (.tmp 1), some (6, true)⟩,
 ⟨some 8, .load1 (.tmp 7), some (6, true)⟩,
 ⟨some 9, .bin .lss (.tmp 8) (.const (.int .i64 16)), some (6, true)⟩,
 ⟨some 10, .pick (.tmp 6) (.tmp 9) (.const (.bool false)), none⟩,
 ⟨some 11, .move (.tmp 10), none⟩,
 ⟨some 12, .fieldAddr 3 (.tmp 1), some (11, true)⟩,
 ⟨some 13, .load1 (.tmp 12), some (11, true)⟩,
 ⟨some 14, .bin .geq (.tmp 13) (.const (.int .i64 1)), some (11, true)⟩,
 ⟨some 15, .pick (.tmp 11) (.tmp 14) (.const (.bool false)), none⟩,
 ⟨some 16, .move (.tmp 15), none⟩,
 ⟨some 17, .fieldAddr 4 (.tmp 1), some (16, true)⟩,
 ⟨some 18, .load1 (.tmp 17), some (16, true)⟩,
 ⟨some 19, .bin .geq (.tmp 18) (.const (.int .i64 0)), some (16, true)⟩,
 ⟨some 20, .pick (.tmp 16) (.tmp 19) (.const (.bool false)), none⟩,
 ⟨some 21, .move (.tmp 20), none⟩,
 ⟨some 22, .fieldAddr 4 (.tmp 1), some (21, true)⟩,
 ⟨some 23, .load1 (.tmp 22), some (21, true)⟩,
 ⟨some 24, .bin .leq (.tmp 23) (.const (.int .i64 65536)), some (21, true)⟩,
 ⟨some 25, .pick (.tmp 21) (.tmp 24) (.const (.bool false)), none⟩,
 ⟨some 26, .move (.tmp 25), none⟩,
 ⟨some 27, .fieldAddr 5 (.tmp 1), some (26, true)⟩,
 ⟨some 28, .load1 (.tmp 27), some (26, true)⟩,
 ⟨some 29, .call (F 134) [.tmp 28], some (26, true)⟩,
 ⟨some 30, .pick (.tmp 26) (.tmp 29) (.const (.bool false)), none⟩,
 ⟨some 2, .move (.tmp 30), none⟩])
 (.ret))⟩
/-- hurdle/smap.group -/
def c_smap_group (F : Nat → FuncId) (Ty : Nat → TypeId) : IFunc := ⟨34, [.tmp 2],
 .seq (.ops [⟨some 2, .move (.const (.bool false)), none⟩])
 (.seq (.seq (.ops [⟨some 5, .move (.tmp 0), none⟩,
 ⟨some 6, .lenSl (.tmp 5), none⟩,
 ⟨some 7, .bin .lss (.tmp 6) (.const (.int .i64 2)), none⟩,
 ⟨some 8, .move (.tmp 7), none⟩,
 ⟨some 9, .move (.tmp 0), some (8, false)⟩,
 ⟨some 10, .lenSl (.tmp 9), some (8, false)⟩,
 ⟨some 11, .bin .gtr (.tmp 10) (.const (.int .i64 8)), some (8, false)⟩,
 ⟨some 12, .pick (.tmp 8) (.const (.bool true)) (.tmp 11), none⟩])
 (.cond (.tmp 12)
 (.seq (.ops [⟨some 2, .move (.const (.bool false)), none⟩])
 (.ret))
 (.skip)))
 (.seq (.seq (.ops [⟨some 13, .move (.tmp 0), none⟩,
 ⟨some 14, .lenSl (.tmp 13), none⟩,
 ⟨some 15, .move (.const (.int .i64 0)), none⟩])
 (.block 0 (.loop (.seq (.ops [⟨some 16, .bin .lss (.tmp 15) (.tmp 14), none⟩])
 (.seq (.cond (.tmp 16)
 (.skip)
 (.exit 0))
 (.seq (.block 1 (.seq (.ops [⟨some 17, .move (.tmp 15), none⟩,
 ⟨some 18, .idxSl 1 (.tmp 13) (.tmp 15), none⟩,
 ⟨some 19, .load1 (.tmp 18), none⟩,
 ⟨some 3, .move (.tmp 17), none⟩,
 ⟨some 4, .move (.tmp 19), none⟩])
 (.seq (.ops [⟨some 20, .move (.tmp 4), none⟩,
 ⟨some 21, .bin .lss (.tmp 20) (.const (.int .i64 0)), none⟩,
 ⟨some 22, .move (.tmp 21), none⟩,
 ⟨some 23, .move (.tmp 4), some (22, false)⟩,
 ⟨some 24, .bin .geq (.tmp 23) (.const (.int .i64 64)), some (22, false)⟩,
 ⟨some 25, .pick (.tmp 22) (.const (.bool true)) (.tmp 24), none⟩,
 ⟨some 26, .move (.tmp 25), none⟩,
 ⟨some 27, .move (.tmp 0), some (26, false)⟩,
 ⟨some 28, .move (.tmp 3), some (26, false)⟩,
 ⟨some 29, .sliceSl 1 (.tmp 27) none (some (.tmp 28)) none, some (26, false)⟩,
 ⟨some 30, .move (.tmp 4), some (26, false)⟩,
 ⟨some 31, .call (F 154) [.tmp 29, .tmp 30], some (26, false)⟩,
 ⟨some 32, .pick (.tmp 26) (.const (.bool true)) (.tmp 31), none⟩])
 (.cond (.tmp 32)
 (.seq (.ops [⟨some 2, .move (.const (.bool false)), none⟩])
 (.ret))
 (.skip)))))
 (.ops [⟨some 33, .bin .add (.tmp 15) (.const (.int .i64 1)), none⟩,
 ⟨some 15, .move (.tmp 33), none⟩])))))))
 (.seq (.ops [⟨some 2, .move (.const (.bool true)), none⟩])
 (.ret))))⟩
/-- (*hurdle/smap.Map).Begin -/
def c_smap_Map_Begin (F : Nat → FuncId) (Ty : Nat → TypeId) : IFunc := ⟨66, [.tmp 10, .tmp 11],
 .seq (.ops [⟨some 10, .move (.const (.int .i64 0)), none⟩,
 ⟨some 11, .move (.const (.int .i64 0)), none⟩])
 (.seq (.ops [⟨some 13, .move (.tmp 1), none⟩,
 ⟨some 14, .move (.tmp 2), none⟩,
 ⟨some 15, .move (.tmp 3), none⟩,
 ⟨some 16, .move (.tmp 4), none⟩,
 ⟨some 17, .call (F 153) [.tmp 16], none⟩,
 ⟨some 18, .build [.int .i64 0, .int .i64 0, .int .i64 0, .int .i64 0, .int .i64 0, .slice none 0 0] [((1, 1), .const (.int .i64 1)), ((2, 1), .tmp 13), ((3, 1), .tmp 14), ((4, 1), .tmp 15), ((5, 1), .tmp 17)], none⟩,
 ⟨some 12, .alloc [.int .i64 0, .int .i64 0, .int .i64 0, .int .i64 0, .int .i64 0, .slice none 0 0], none⟩,
 ⟨none, .store 6 (.tmp 12) (.tmp 18), none⟩])
 (.seq (.block 0 (.seq (.ops [⟨some 20, .move (.tmp 0), none⟩,
 ⟨some 21, .eqNil 0 false (.tmp 20), none⟩,
 ⟨some 22, .move (.tmp 21), none⟩,
 ⟨some 23, .loadN 6 (.tmp 12), some (22, false)⟩,
 ⟨some 24, .call (F 133) [.tmp 23], some (22, false)⟩,
 ⟨some 25, .un .not (.tmp 24), some (22, false)⟩,
 ⟨some 26, .pick (.tmp 22) (.const (.bool true)) (.tmp 25), none⟩,
 ⟨some 19, .move (.tmp 26), none⟩])
 (.cond (.tmp 19)
 (.seq (.ops [⟨some 10, .move (.const (.int .i64 0)), none⟩,
 ⟨some 11, .move (.const (.int .i64 1)), none⟩])
 (.ret))
 (.seq (.ops [⟨some 28, .move (.tmp 0), none⟩,
 ⟨some 29, .nilCheck (.tmp 28), none⟩,
 ⟨some 30, .fieldAddr 1 (.tmp 29), none⟩,
 ⟨some 31, .load1 (.tmp 30), none⟩,
 ⟨some 32, .bin .geq (.tmp 31) (.const (.int .i64 256)), none⟩,
 ⟨some 33, .move (.tmp 32), none⟩,
 ⟨some 34, .move (.tmp 0), some (33, false)⟩,
 ⟨some 35, .nilCheck (.tmp 34), some (33, false)⟩,
 ⟨some 36, .fieldAddr 0 (.tmp 35), some (33, false)⟩,
 ⟨some 37, .load1 (.tmp 36), some (33, false)⟩,
 ⟨some 38, .lenSl (.tmp 37), some (33, false)⟩,
 ⟨some 39, .bin .geq (.tmp 38) (.const (.int .i64 4096)), some (33, false)⟩,
 ⟨some 40, .pick (.tmp 33) (.const (.bool true)) (.tmp 39), none⟩,
 ⟨some 27, .move (.tmp 40), none⟩])
 (.cond (.tmp 27)
 (.seq (.ops [⟨some 10, .move (.const (.int .i64 0)), none⟩,
 ⟨some 11, .move (.const (.int .i64 5)), none⟩])
 (.ret))
 (.skip))))))
 (.seq (.ops [⟨some 41, .move (.tmp 0), none⟩,
 ⟨some 42, .nilCheck (.tmp 41), none⟩,
 ⟨some 43, .fieldAddr 0 (.tmp 42), none⟩,
 ⟨some 44, .load1 (.tmp 43), none⟩,
 ⟨some 45, .lenSl (.tmp 44), none⟩,
 ⟨some 46, .fieldAddr 0 (.tmp 12), none⟩,
 ⟨none, .store 1 (.tmp 46) (.tmp 45), none⟩])
 (.seq (.draw [(⟨some 47, .move (.tmp 0), none⟩, []),
 (⟨some 48, .move (.tmp 0), none⟩, []),
 (⟨some 49, .nilCheck (.tmp 48), none⟩, []),
 (⟨some 50, .fieldAddr 0 (.tmp 49), none⟩, []),
 (⟨some 51, .load1 (.tmp 50), none⟩, []),
 (⟨some 52, .loadN 6 (.tmp 12), none⟩, []),
 (⟨some 53, .buildSlice 1 [.int .i64 0, .int .i64 0, .int .i64 0, .int .i64 0, .int .i64 0, .slice none 0 0] [((0, 6), .tmp 52)], none⟩, []),
 (⟨some 54, .append 6 64 (.tmp 51) (.tmp 53), none⟩, []),
 (⟨some 55, .nilCheck (.tmp 47), none⟩, []),
 (⟨some 56, .fieldAddr 0 (.tmp 55), none⟩, []),
 (⟨none, .store 1 (.tmp 56) (.tmp 54), none⟩, [])])
 (.seq (.ops [⟨some 57, .move (.tmp 0), none⟩,
 ⟨some 58, .nilCheck (.tmp 57), none⟩,
 ⟨some 59, .fieldAddr 1 (.tmp 58), none⟩,
 ⟨some 60, .load1 (.tmp 59), none⟩,
 ⟨some 61, .bin .add (.tmp 60) (.const (.int .i64 1)), none⟩,
 ⟨some 62, .nilCheck (.tmp 57), none⟩,
 ⟨some 63, .fieldAddr 1 (.tmp 62), none⟩,
 ⟨none, .store 1 (.tmp 63) (.tmp 61), none⟩])
 (.seq (.ops [⟨some 64, .fieldAddr 0 (.tmp 12), none⟩,
 ⟨some 65, .load1 (.tmp 64), none⟩,
 ⟨some 10, .move (.tmp 65), none⟩,
 ⟨some 11, .move (.const (.int .i64 0)), none⟩])
 (.ret)))))))⟩
/-- (*hurdle/smap.Map).at -/
def c_smap_Map_at (F : Nat → FuncId) (Ty : Nat → TypeId) : IFunc := ⟨26, [.tmp 4],
 .seq (.ops [⟨some 4, .move (.const (.pointer none)), none⟩])
 (.seq (.seq (.ops [⟨some 5, .move (.tmp 0), none⟩,
 ⟨some 6, .eqNil 0 false (.tmp 5), none⟩,
 ⟨some 7, .move (.tmp 6), none⟩,
 ⟨some 8, .move (.tmp 1), some (7, false)⟩,
 ⟨some 9, .bin .lss (.tmp 8) (.const (.int .i64 0)), some (7, false)⟩,
 ⟨some 10, .pick (.tmp 7) (.const (.bool true)) (.tmp 9), none⟩,
 ⟨some 11, .move (.tmp 10), none⟩,
 ⟨some 12, .move (.tmp 1), some (11, false)⟩,
 ⟨some 13, .move (.tmp 0), some (11, false)⟩,
 ⟨some 14, .nilCheck (.tmp 13), some (11, false)⟩,
 ⟨some 15, .fieldAddr 0 (.tmp 14), some (11, false)⟩,
 ⟨some 16, .load1 (.tmp 15), some (11, false)⟩,
 ⟨some 17, .lenSl (.tmp 16), some (11, false)⟩,
 ⟨some 18, .bin .geq (.tmp 12) (.tmp 17), some (11, false)⟩,
 ⟨some 19, .pick (.tmp 11) (.const (.bool true)) (.tmp 18), none⟩])
 (.cond (.tmp 19)
 (.seq (.ops [⟨some 4, .move (.const (.pointer none)), none⟩])
 (.ret))
 (.skip)))
 (.seq (.ops [⟨some 20, .move (.tmp 0), none⟩,
 ⟨some 21, .nilCheck (.tmp 20), none⟩,
 ⟨some 22, .fieldAddr 0 (.tmp 21), none⟩,
 ⟨some 23, .load1 (.tmp 22), none⟩,
 ⟨some 24, .move (.tmp 1), none⟩,
 ⟨some 25, .idxSl 6 (.tmp 23) (.tmp 24), none⟩,
 ⟨some 4, .move (.tmp 25), none⟩])
 (.ret)))⟩
/-- (*hurdle/smap.Map).Commit -/
def c_smap_Map_Commit (F : Nat → FuncId) (Ty : Nat → TypeId) : IFunc := ⟨33, [.tmp 6],
 .seq (.ops [⟨some 6, .move (.const (.int .i64 0)), none⟩])
 (.seq (.seq (.ops [⟨some 8, .move (.tmp 0), none⟩,
 ⟨some 9, .eqNil 0 false (.tmp 8), none⟩])
 (.cond (.tmp 9)
 (.seq (.ops [⟨some 6, .move (.const (.int .i64 1)), none⟩])
 (.ret))
 (.skip)))
 (.seq (.ops [⟨some 10, .move (.tmp 0), none⟩,
 ⟨some 11, .move (.tmp 1), none⟩,
 ⟨some 12, .call (F 136) [.tmp 10, .tmp 11], none⟩,
 ⟨some 7, .move (.tmp 12), none⟩])
 (.seq (.block 0 (.seq (.ops [⟨some 14, .move (.tmp 7), none⟩,
 ⟨some 15, .eqNil 0 false (.tmp 14), none⟩,
 ⟨some 13, .move (.tmp 15), none⟩])
 (.cond (.tmp 13)
 (.seq (.ops [⟨some 6, .move (.const (.int .i64 7)), none⟩])
 (.ret))
 (.seq (.ops [⟨some 17, .move (.tmp 7), none⟩,
 ⟨some 18, .nilCheck (.tmp 17), none⟩,
 ⟨some 19, .fieldAddr 1 (.tmp 18), none⟩,
 ⟨some 20, .load1 (.tmp 19), none⟩,
 ⟨some 21, .bin .neq (.tmp 20) (.const (.int .i64 1)), none⟩,
 ⟨some 22, .move (.tmp 21), none⟩,
 ⟨some 23, .move (.tmp 7), some (22, false)⟩,
 ⟨some 24, .nilCheck (.tmp 23), some (22, false)⟩,
 ⟨some 25, .fieldAddr 2 (.tmp 24), some (22, false)⟩,
 ⟨some 26, .load1 (.tmp 25), some (22, false)⟩,
 ⟨some 27, .move (.tmp 2), some (22, false)⟩,
 ⟨some 28, .bin .neq (.tmp 26) (.tmp 27), some (22, false)⟩,
 ⟨some 29, .pick (.tmp 22) (.const (.bool true)) (.tmp 28), none⟩,
 ⟨some 16, .move (.tmp 29), none⟩])
 (.cond (.tmp 16)
 (.seq (.ops [⟨some 6, .move (.const (.int .i64 16)), none⟩])
 (.ret))
 (.skip))))))
 (.seq (.ops [⟨some 30, .move (.tmp 7), none⟩,
 ⟨some 31, .nilCheck (.tmp 30), none⟩,
 ⟨some 32, .fieldAddr 1 (.tmp 31), none⟩,
 ⟨none, .store 1 (.tmp 32) (.const (.int .i64 2)), none⟩])
 (.seq (.ops [⟨some 6, .move (.const (.int .i64 0)), none⟩])
 (.ret))))))⟩
/-- (*hurdle/smap.Map).Free -/
def c_smap_Map_Free (F : Nat → FuncId) (Ty : Nat → TypeId) : IFunc := ⟨31, [.tmp 4],
 .seq (.ops [⟨some 4, .move (.const (.int .i64 0)), none⟩])
 (.seq (.seq (.ops [⟨some 6, .move (.tmp 0), none⟩,
 ⟨some 7, .eqNil 0 false (.tmp 6), none⟩])
 (.cond (.tmp 7)
 (.seq (.ops [⟨some 4, .move (.const (.int .i64 1)), none⟩])
 (.ret))
 (.skip)))
 (.seq (.ops [⟨some 8, .move (.tmp 0), none⟩,
 ⟨some 9, .move (.tmp 1), none⟩,
 ⟨some 10, .call (F 136) [.tmp 8, .tmp 9], none⟩,
 ⟨some 5, .move (.tmp 10), none⟩])
 (.seq (.seq (.ops [⟨some 11, .move (.tmp 5), none⟩,
 ⟨some 12, .eqNil 0 false (.tmp 11), none⟩])
 (.cond (.tmp 12)
 (.seq (.ops [⟨some 4, .move (.const (.int .i64 7)), none⟩])
 (.ret))
 (.skip)))
 (.seq (.seq (.ops [⟨some 13, .move (.tmp 5), none⟩,
 ⟨some 14, .nilCheck (.tmp 13), none⟩,
 ⟨some 15, .fieldAddr 1 (.tmp 14), none⟩,
 ⟨some 16, .load1 (.tmp 15), none⟩])
 (.block 0 (.seq (.block 2 (.block 1 (.seq (.seq (.seq (.ops [⟨some 18, .bin .eql (.tmp 16) (.const (.int .i64 1)), none⟩,
 ⟨some 17, .move (.tmp 18), none⟩])
 (.cond (.tmp 17)
 (.exit 1)
 (.skip)))
 (.seq (.ops [⟨some 20, .bin .eql (.tmp 16) (.const (.int .i64 2)), none⟩,
 ⟨some 19, .move (.tmp 20), none⟩])
 (.cond (.tmp 19)
 (.exit 2)
 (.skip))))
 (.exit 0))))
 (.seq (.seq (.ops [⟨some 21, .move (.tmp 5), none⟩,
 ⟨some 22, .nilCheck (.tmp 21), none⟩,
 ⟨some 23, .fieldAddr 1 (.tmp 22), none⟩,
 ⟨none, .store 1 (.tmp 23) (.const (.int .i64 3)), none⟩])
 (.seq (.ops [⟨some 24, .move (.tmp 0), none⟩,
 ⟨some 25, .nilCheck (.tmp 24), none⟩,
 ⟨some 26, .fieldAddr 1 (.tmp 25), none⟩,
 ⟨some 27, .load1 (.tmp 26), none⟩,
 ⟨some 28, .bin .sub (.tmp 27) (.const (.int .i64 1)), none⟩,
 ⟨some 29, .nilCheck (.tmp 24), none⟩,
 ⟨some 30, .fieldAddr 1 (.tmp 29), none⟩,
 ⟨none, .store 1 (.tmp 30) (.tmp 28), none⟩])
 (.seq (.ops [⟨some 4, .move (.const (.int .i64 0)), none⟩])
 (.ret))))
 (.exit 0)))))
 (.seq (.ops [⟨some 4, .move (.const (.int .i64 16)), none⟩])
 (.ret))))))⟩
/-- (*hurdle/smap.Map).which -/
def c_smap_Map_which (F : Nat → FuncId) (Ty : Nat → TypeId) : IFunc := ⟨29, [.tmp 4],
 .seq (.ops [⟨some 4, .move (.const (.slice none 0 0)), none⟩])
 (.seq (.ops [⟨some 5, .move (.const (.slice none 0 0)), none⟩])
 (.seq (.seq (.ops [⟨some 8, .move (.tmp 0), none⟩,
 ⟨some 9, .eqNil 0 true (.tmp 8), none⟩])
 (.cond (.tmp 9)
 (.seq (.ops [⟨some 10, .move (.tmp 0), none⟩,
 ⟨some 11, .nilCheck (.tmp 10), none⟩,
 ⟨some 12, .fieldAddr 0 (.tmp 11), none⟩,
 ⟨some 13, .load1 (.tmp 12), none⟩,
 ⟨some 14, .lenSl (.tmp 13), none⟩,
 ⟨some 15, .move (.const (.int .i64 0)), none⟩])
 (.block 0 (.loop (.seq (.ops [⟨some 16, .bin .lss (.tmp 15) (.tmp 14), none⟩])
 (.seq (.cond (.tmp 16)
 (.skip)
 (.exit 0))
 (.seq (.block 1 (.seq (.ops [⟨some 17, .idxSl 6 (.tmp 13) (.tmp 15), none⟩,
 ⟨some 18, .loadN 6 (.tmp 17), none⟩,
 ⟨some 7, .alloc [.int .i64 0, .int .i64 0, .int .i64 0, .int .i64 0, .int .i64 0, .slice none 0 0], none⟩,
 ⟨none, .store 6 (.tmp 7) (.tmp 18), none⟩])
 (.seq (.ops [⟨some 19, .move (.tmp 1), none⟩,
 ⟨some 20, .loadN 6 (.tmp 7), none⟩,
 ⟨some 21, .callDyn (.tmp 19) [.tmp 20], none⟩])
 (.cond (.tmp 21)
 (.ops [⟨some 22, .move (.tmp 5), none⟩,
 ⟨some 23, .fieldAddr 0 (.tmp 7), none⟩,
 ⟨some 24, .load1 (.tmp 23), none⟩,
 ⟨some 25, .buildSlice 1 [.int .i64 0] [((0, 1), .tmp 24)], none⟩,
 ⟨some 26, .append 1 8 (.tmp 22) (.tmp 25), none⟩,
 ⟨some 5, .move (.tmp 26), none⟩])
 (.skip)))))
 (.ops [⟨some 27, .bin .add (.tmp 15) (.const (.int .i64 1)), none⟩,
 ⟨some 15, .move (.tmp 27), none⟩])))))))
 (.skip)))
 (.seq (.ops [⟨some 28, .move (.tmp 5), none⟩,
 ⟨some 4, .move (.tmp 28), none⟩])
 (.ret))))⟩
/-- (*hurdle/smap.Map).Drop -/
def c_smap_Map_Drop (F : Nat → FuncId) (Ty : Nat → TypeId) : IFunc := ⟨22, [.tmp 4],
 .seq (.ops [⟨some 3, .box (.tmp 1), none⟩,
 ⟨some 4, .move (.const (.slice none 0 0)), none⟩])
 (.seq (.ops [⟨some 8, .move (.tmp 0), none⟩,
 ⟨some 9, .mkFunc (F 141) [] [.tmp 3], none⟩,
 ⟨some 10, .call (F 139) [.tmp 8, .tmp 9], none⟩,
 ⟨some 5, .move (.tmp 10), none⟩])
 (.seq (.seq (.ops [⟨some 11, .move (.tmp 5), none⟩,
 ⟨some 12, .lenSl (.tmp 11), none⟩,
 ⟨some 13, .move (.const (.int .i64 0)), none⟩])
 (.block 0 (.loop (.seq (.ops [⟨some 14, .bin .lss (.tmp 13) (.tmp 12), none⟩])
 (.seq (.cond (.tmp 14)
 (.skip)
 (.exit 0))
 (.seq (.block 1 (.seq (.ops [⟨some 15, .idxSl 1 (.tmp 11) (.tmp 13), none⟩,
 ⟨some 16, .load1 (.tmp 15), none⟩,
 ⟨some 7, .move (.tmp 16), none⟩])
 (.ops [⟨some 17, .move (.tmp 0), none⟩,
 ⟨some 18, .move (.tmp 7), none⟩,
 ⟨some 19, .call (F 138) [.tmp 17, .tmp 18], none⟩])))
 (.ops [⟨some 20, .bin .add (.tmp 13) (.const (.int .i64 1)), none⟩,
 ⟨some 13, .move (.tmp 20), none⟩])))))))
 (.seq (.ops [⟨some 21, .move (.tmp 5), none⟩,
 ⟨some 4, .move (.tmp 21), none⟩])
 (.ret))))⟩
/-- (*hurdle/smap.Map).Drop$1 -/
def c_smap_Map_Drop_F1 (F : Nat → FuncId) (Ty : Nat → TypeId) : IFunc := ⟨13, [.tmp 3],
 .seq (.ops [⟨some 2, .box (.tmp 0), none⟩,
 ⟨some 3, .move (.const (.bool false)), none⟩])
 (.seq (.ops [⟨some 4, .fieldAddr 2 (.tmp 2), none⟩,
 ⟨some 5, .load1 (.tmp 4), none⟩,
 ⟨some 6, .load1 (.tmp 1), none⟩,
 ⟨some 7, .bin .eql (.tmp 5) (.tmp 6), none⟩,
 ⟨some 8, .move (.tmp 7), none⟩,
 ⟨some 9, .fieldAddr 1 (.tmp 2), some (8, true)⟩,
 ⟨some 10, .load1 (.tmp 9), some (8, true)⟩,
 ⟨some 11, .bin .eql (.tmp 10) (.const (.int .i64 1)), some (8, true)⟩,
 ⟨some 12, .pick (.tmp 8) (.tmp 11) (.const (.bool false)), none⟩,
 ⟨some 3, .move (.tmp 12), none⟩])
 (.ret))⟩
/-- (*hurdle/smap.Map).Move -/
def c_smap_Map_Move (F : Nat → FuncId) (Ty : Nat → TypeId) : IFunc := ⟨68, [.tmp 8],
 .seq (.ops [⟨some 8, .move (.const (.int .i64 0)), none⟩])
 (.seq (.ops [⟨some 12, .move (.tmp 0), none⟩,
 ⟨some 13, .move (.tmp 1), none⟩,
 ⟨some 14, .call (F 136) [.tmp 12, .tmp 13], none⟩,
 ⟨some 9, .move (.tmp 14), none⟩,
 ⟨some 10, .move (.const (.int .i64 8)), none⟩])
 (.seq (.seq (.ops [⟨some 15, .move (.tmp 9), none⟩,
 ⟨some 16, .eqNil 0 true (.tmp 15), none⟩])
 (.cond (.tmp 16)
 (.ops [⟨some 17, .move (.tmp 9), none⟩,
 ⟨some 18, .nilCheck (.tmp 17), none⟩,
 ⟨some 19, .fieldAddr 5 (.tmp 18), none⟩,
 ⟨some 20, .load1 (.tmp 19), none⟩,
 ⟨some 21, .lenSl (.tmp 20), none⟩,
 ⟨some 10, .move (.tmp 21), none⟩])
 (.skip)))
 (.seq (.seq (.ops [⟨some 22, .move (.tmp 0), none⟩,
 ⟨some 23, .eqNil 0 false (.tmp 22), none⟩,
 ⟨some 24, .move (.tmp 23), none⟩,
 ⟨some 25, .move (.tmp 2), some (24, false)⟩,
 ⟨some 26, .bin .lss (.tmp 25) (.const (.int .i64 0)), some (24, false)⟩,
 ⟨some 27, .pick (.tmp 24) (.const (.bool true)) (.tmp 26), none⟩,
 ⟨some 28, .move (.tmp 27), none⟩,
 ⟨some 29, .move (.tmp 2), some (28, false)⟩,
 ⟨some 30, .move (.tmp 10), some (28, false)⟩,
 ⟨some 31, .bin .geq (.tmp 29) (.tmp 30), some (28, false)⟩,
 ⟨some 32, .pick (.tmp 28) (.const (.bool true)) (.tmp 31), none⟩,
 ⟨some 33, .move (.tmp 32), none⟩,
 ⟨some 34, .move (.tmp 3), some (33, false)⟩,
 ⟨some 35, .bin .lss (.tmp 34) (.const (.int .i64 0)), some (33, false)⟩,
 ⟨some 36, .pick (.tmp 33) (.const (.bool true)) (.tmp 35), none⟩,
 ⟨some 37, .move (.tmp 36), none⟩,
 ⟨some 38, .move (.tmp 3), some (37, false)⟩,
 ⟨some 39, .bin .geq (.tmp 38) (.const (.int .i64 64)), some (37, false)⟩,
 ⟨some 40, .pick (.tmp 37) (.const (.bool true)) (.tmp 39), none⟩])
 (.cond (.tmp 40)
 (.seq (.ops [⟨some 8, .move (.const (.int .i64 1)), none⟩])
 (.ret))
 (.skip)))
 (.seq (.seq (.ops [⟨some 41, .move (.tmp 9), none⟩,
 ⟨some 42, .eqNil 0 false (.tmp 41), none⟩])
 (.cond (.tmp 42)
 (.seq (.ops [⟨some 8, .move (.const (.int .i64 7)), none⟩])
 (.ret))
 (.skip)))
 (.seq (.seq (.ops [⟨some 43, .move (.tmp 9), none⟩,
 ⟨some 44, .nilCheck (.tmp 43), none⟩,
 ⟨some 45, .fieldAddr 5 (.tmp 44), none⟩,
 ⟨some 46, .load1 (.tmp 45), none⟩,
 ⟨some 47, .move (.tmp 3), none⟩,
 ⟨some 48, .call (F 110) [.tmp 46, .tmp 47], none⟩,
 ⟨some 11, .move (.tmp 48), none⟩])
 (.seq (.ops [⟨some 49, .move (.tmp 11), none⟩,
 ⟨some 50, .bin .geq (.tmp 49) (.const (.int .i64 0)), none⟩,
 ⟨some 51, .move (.tmp 50), none⟩,
 ⟨some 52, .move (.tmp 11), some (51, true)⟩,
 ⟨some 53, .move (.tmp 2), some (51, true)⟩,
 ⟨some 54, .bin .neq (.tmp 52) (.tmp 53), some (51, true)⟩,
 ⟨some 55, .pick (.tmp 51) (.tmp 54) (.const (.bool false)), none⟩])
 (.cond (.tmp 55)
 (.seq (.ops [⟨some 8, .move (.const (.int .i64 6)), none⟩])
 (.ret))
 (.skip))))
 (.seq (.seq (.ops [⟨some 56, .move (.tmp 9), none⟩,
 ⟨some 57, .nilCheck (.tmp 56), none⟩,
 ⟨some 58, .fieldAddr 1 (.tmp 57), none⟩,
 ⟨some 59, .load1 (.tmp 58), none⟩,
 ⟨some 60, .bin .eql (.tmp 59) (.const (.int .i64 3)), none⟩])
 (.cond (.tmp 60)
 (.seq (.ops [⟨some 8, .move (.const (.int .i64 16)), none⟩])
 (.ret))
 (.skip)))
 (.seq (.ops [⟨some 61, .move (.tmp 9), none⟩,
 ⟨some 62, .nilCheck (.tmp 61), none⟩,
 ⟨some 63, .fieldAddr 5 (.tmp 62), none⟩,
 ⟨some 64, .load1 (.tmp 63), none⟩,
 ⟨some 65, .move (.tmp 2), none⟩,
 ⟨some 66, .move (.tmp 3), none⟩,
 ⟨some 67, .idxSl 1 (.tmp 64) (.tmp 65), none⟩,
 ⟨none, .store 1 (.tmp 67) (.tmp 66), none⟩])
 (.seq (.ops [⟨some 8, .move (.const (.int .i64 0)), none⟩])
 (.ret)))))))))⟩
/-- (*hurdle/smap.Map).Get -/
def c_smap_Map_Get (F : Nat → FuncId) (Ty : Nat → TypeId) : IFunc := ⟨22, [.cellN 4 6, .tmp 5],
 .seq (.ops [⟨some 4, .alloc [.int .i64 0, .int .i64 0, .int .i64 0, .int .i64 0, .int .i64 0, .slice none 0 0], none⟩,
 ⟨some 5, .move (.const (.bool false)), none⟩])
 (.seq (.ops [⟨some 8, .move (.tmp 0), none⟩,
 ⟨some 9, .move (.tmp 1), none⟩,
 ⟨some 10, .call (F 136) [.tmp 8, .tmp 9], none⟩,
 ⟨some 6, .move (.tmp 10), none⟩])
 (.seq (.seq (.ops [⟨some 11, .move (.tmp 6), none⟩,
 ⟨some 12, .eqNil 0 false (.tmp 11), none⟩])
 (.cond (.tmp 12)
 (.seq (.ops [⟨some 13, .build [.int .i64 0, .int .i64 0, .int .i64 0, .int .i64 0, .int .i64 0, .slice none 0 0] [], none⟩,
 ⟨none, .store 6 (.tmp 4) (.tmp 13), none⟩,
 ⟨some 5, .move (.const (.bool false)), none⟩])
 (.ret))
 (.skip)))
 (.seq (.ops [⟨some 14, .move (.tmp 6), none⟩,
 ⟨some 15, .nilCheck (.tmp 14), none⟩,
 ⟨some 16, .loadN 6 (.tmp 15), none⟩,
 ⟨some 7, .alloc [.int .i64 0, .int .i64 0, .int .i64 0, .int .i64 0, .int .i64 0, .slice none 0 0], none⟩,
 ⟨none, .store 6 (.tmp 7) (.tmp 16), none⟩])
 (.seq (.ops [⟨some 17, .fieldAddr 5 (.tmp 7), none⟩,
 ⟨some 18, .load1 (.tmp 17), none⟩,
 ⟨some 19, .call (F 153) [.tmp 18], none⟩,
 ⟨some 20, .fieldAddr 5 (.tmp 7), none⟩,
 ⟨none, .store 1 (.tmp 20) (.tmp 19), none⟩])
 (.seq (.ops [⟨some 21, .loadN 6 (.tmp 7), none⟩,
 ⟨none, .store 6 (.tmp 4) (.tmp 21), none⟩,
 ⟨some 5, .move (.const (.bool true)), none⟩])
 (.ret))))))⟩
/-- (*hurdle/smap.Map).List -/
def c_smap_Map_List (F : Nat → FuncId) (Ty : Nat → TypeId) : IFunc := ⟨8, [.tmp 4],
 .seq (.ops [⟨some 3, .box (.tmp 1), none⟩,
 ⟨some 4, .move (.const (.slice none 0 0)), none⟩])
 (.seq (.ops [⟨some 5, .move (.tmp 0), none⟩,
 ⟨some 6, .mkFunc (F 145) [] [.tmp 3], none⟩,
 ⟨some 7, .call (F 139) [.tmp 5, .tmp 6], none⟩,
 ⟨some 4, .move (.tmp 7), none⟩])
 (.ret))⟩
/-- (*hurdle/smap.Map).List$1 -/
def c_smap_Map_List_F1 (F : Nat → FuncId) (Ty : Nat → TypeId) : IFunc := ⟨8, [.tmp 3],
 .seq (.ops [⟨some 2, .box (.tmp 0), none⟩,
 ⟨some 3, .move (.const (.bool false)), none⟩])
 (.seq (.ops [⟨some 4, .fieldAddr 1 (.tmp 2), none⟩,
 ⟨some 5, .load1 (.tmp 4), none⟩,
 ⟨some 6, .load1 (.tmp 1), none⟩,
 ⟨some 7, .bin .eql (.tmp 5) (.tmp 6), none⟩,
 ⟨some 3, .move (.tmp 7), none⟩])
 (.ret))⟩
/-- (*hurdle/smap.Map).On -/
def c_smap_Map_On (F : Nat → FuncId) (Ty : Nat → TypeId) : IFunc := ⟨8, [.tmp 4],
 .seq (.ops [⟨some 3, .box (.tmp 1), none⟩,
 ⟨some 4, .move (.const (.slice none 0 0)), none⟩])
 (.seq (.ops [⟨some 5, .move (.tmp 0), none⟩,
 ⟨some 6, .mkFunc (F 147) [] [.tmp 3], none⟩,
 ⟨some 7, .call (F 139) [.tmp 5, .tmp 6], none⟩,
 ⟨some 4, .move (.tmp 7), none⟩])
 (.ret))⟩
/-- (*hurdle/smap.Map).On$1 -/
def c_smap_Map_On_F1 (F : Nat → FuncId) (Ty : Nat → TypeId) : IFunc := ⟨13, [.tmp 3],
 .seq (.ops [⟨some 2, .box (.tmp 0), none⟩,
 ⟨some 3, .move (.const (.bool false)), none⟩])
 (.seq (.ops [⟨some 4, .fieldAddr 1 (.tmp 2), none⟩,
 ⟨some 5, .load1 (.tmp 4), none⟩,
 ⟨some 6, .bin .neq (.tmp 5) (.const (.int .i64 3)), none⟩,
 ⟨some 7, .move (.tmp 6), none⟩,
 ⟨some 8, .fieldAddr 5 (.tmp 2), some (7, true)⟩,
 ⟨some 9, .load1 (.tmp 8), some (7, true)⟩,
 ⟨some 10, .load1 (.tmp 1), some (7, true)⟩,
 ⟨some 11, .call (F 154) [.tmp 9, .tmp 10], some (7, true)⟩,
 ⟨some 12, .pick (.tmp 7) (.tmp 11) (.const (.bool false)), none⟩,
 ⟨some 3, .move (.tmp 12), none⟩])
 (.ret))⟩
/-- (*hurdle/smap.Map).Text -/
def c_smap_Map_Text (F : Nat → FuncId) (Ty : Nat → TypeId) : IFunc := ⟨28, [.tmp 2],
 .seq (.ops [⟨some 1, .box (.tmp 0), none⟩,
 ⟨some 2, .move (.const (.string ⟨#[]⟩)), none⟩])
 (.seq (.seq (.ops [⟨some 7, .load1 (.tmp 1), none⟩,
 ⟨some 8, .eqNil 0 false (.tmp 7), none⟩])
 (.cond (.tmp 8)
 (.seq (.ops [⟨some 2, .move (.const (.string ⟨#[]⟩)), none⟩])
 (.ret))
 (.skip)))
 (.seq (.ops [⟨some 3, .alloc [.slice none 0 0], none⟩])
 (.seq (.ops [⟨some 9, .mkFunc (F 149) [] [.tmp 3], none⟩,
 ⟨some 4, .move (.tmp 9), none⟩])
 (.seq (.ops [⟨some 10, .move (.tmp 4), none⟩,
 ⟨some 11, .mkFunc (F 150) [] [.tmp 1], none⟩,
 ⟨some 12, .callDyn (.tmp 10) [.tmp 11], none⟩])
 (.seq (.seq (.ops [⟨some 13, .load1 (.tmp 1), none⟩,
 ⟨some 14, .nilCheck (.tmp 13), none⟩,
 ⟨some 15, .fieldAddr 0 (.tmp 14), none⟩,
 ⟨some 16, .load1 (.tmp 15), none⟩,
 ⟨some 17, .lenSl (.tmp 16), none⟩,
 ⟨some 18, .move (.const (.int .i64 0)), none⟩])
 (.block 0 (.loop (.seq (.ops [⟨some 19, .bin .lss (.tmp 18) (.tmp 17), none⟩])
 (.seq (.cond (.tmp 19)
 (.skip)
 (.exit 0))
 (.seq (.block 1 (.seq (.ops [⟨some 20, .idxSl 6 (.tmp 16) (.tmp 18), none⟩,
 ⟨some 21, .loadN 6 (.tmp 20), none⟩,
 ⟨some 6, .alloc [.int .i64 0, .int .i64 0, .int .i64 0, .int .i64 0, .int .i64 0, .slice none 0 0], none⟩,
 ⟨none, .store 6 (.tmp 6) (.tmp 21), none⟩])
 (.ops [⟨some 22, .move (.tmp 4), none⟩,
 ⟨some 23, .mkFunc (F 151) [] [.tmp 6], none⟩,
 ⟨some 24, .callDyn (.tmp 22) [.tmp 23], none⟩])))
 (.ops [⟨some 25, .bin .add (.tmp 18) (.const (.int .i64 1)), none⟩,
 ⟨some 18, .move (.tmp 25), none⟩])))))))
 (.seq (.ops [⟨some 26, .load1 (.tmp 3), none⟩,
 ⟨some 27, .bytesStr (.tmp 26), none⟩,
 ⟨some 2, .move (.tmp 27), none⟩])
 (.ret)))))))⟩
/-- (*hurdle/smap.Map).Text$1 -/
def c_smap_Map_Text_F1 (F : Nat → FuncId) (Ty : Nat → TypeId) : IFunc := ⟨18, [],
 .seq (.ops [⟨some 6, .call (F 31) [.const (.int .i64 65536)], none⟩,
 ⟨some 3, .move (.tmp 6), none⟩])
 (.seq (.ops [⟨some 7, .move (.tmp 0), none⟩,
 ⟨some 8, .move (.tmp 3), none⟩,
 ⟨some 9, .callDyn (.tmp 7) [.tmp 8], none⟩])
 (.seq (.ops [⟨some 11, .move (.tmp 3), none⟩,
 ⟨some 12, .call (F 35) [.tmp 11], none⟩,
 ⟨some 10, .move (.tmp 12), none⟩,
 ⟨some 13, .extract (.tmp 10) 0, none⟩,
 ⟨some 14, .extract (.tmp 10) 1, none⟩,
 ⟨some 4, .move (.tmp 13), none⟩,
 ⟨some 5, .move (.tmp 14), none⟩])
 (.ops [⟨some 15, .load1 (.tmp 1), none⟩,
 ⟨some 16, .move (.tmp 4), none⟩,
 ⟨some 17, .appendStr (.tmp 15) (.tmp 16), none⟩,
 ⟨none, .store 1 (.tmp 1) (.tmp 17), none⟩])))⟩
/-- (*hurdle/smap.Map).Text$2 -/
def c_smap_Map_Text_F2 (F : Nat → FuncId) (Ty : Nat → TypeId) : IFunc := ⟨10, [],
 .ops [⟨some 3, .move (.tmp 0), none⟩,
 ⟨some 4, .load1 (.tmp 1), none⟩,
 ⟨some 5, .nilCheck (.tmp 4), none⟩,
 ⟨some 6, .fieldAddr 0 (.tmp 5), none⟩,
 ⟨some 7, .load1 (.tmp 6), none⟩,
 ⟨some 8, .lenSl (.tmp 7), none⟩,
 ⟨some 9, .call (F 34) [.tmp 3, .tmp 8], none⟩]⟩
/-- (*hurdle/smap.Map).Text$3 -/
def c_smap_Map_Text_F3 (F : Nat → FuncId) (Ty : Nat → TypeId) : IFunc := ⟨23, [],
 .seq (.ops [⟨some 3, .move (.tmp 0), none⟩,
 ⟨some 4, .fieldAddr 1 (.tmp 1), none⟩,
 ⟨some 5, .load1 (.tmp 4), none⟩,
 ⟨some 6, .call (F 49) [.tmp 3, .tmp 5], none⟩])
 (.seq (.ops [⟨some 7, .move (.tmp 0), none⟩,
 ⟨some 8, .fieldAddr 2 (.tmp 1), none⟩,
 ⟨some 9, .load1 (.tmp 8), none⟩,
 ⟨some 10, .call (F 34) [.tmp 7, .tmp 9], none⟩])
 (.seq (.ops [⟨some 11, .move (.tmp 0), none⟩,
 ⟨some 12, .fieldAddr 3 (.tmp 1), none⟩,
 ⟨some 13, .load1 (.tmp 12), none⟩,
 ⟨some 14, .call (F 34) [.tmp 11, .tmp 13], none⟩])
 (.seq (.ops [⟨some 15, .move (.tmp 0), none⟩,
 ⟨some 16, .fieldAddr 4 (.tmp 1), none⟩,
 ⟨some 17, .load1 (.tmp 16), none⟩,
 ⟨some 18, .call (F 34) [.tmp 15, .tmp 17], none⟩])
 (.ops [⟨some 19, .move (.tmp 0), none⟩,
 ⟨some 20, .fieldAddr 5 (.tmp 1), none⟩,
 ⟨some 21, .load1 (.tmp 20), none⟩,
 ⟨some 22, .call (F 32) [.tmp 19, .tmp 21], none⟩]))))⟩
/-- hurdle/smap.Read -/
def c_smap_Read (F : Nat → FuncId) (Ty : Nat → TypeId) : IFunc := ⟨81, [.tmp 2, .tmp 3],
 .seq (.ops [⟨some 2, .move (.const (.pointer none)), none⟩,
 ⟨some 3, .move (.const (.int .i64 0)), none⟩])
 (.seq (.ops [⟨some 9, .move (.tmp 0), none⟩,
 ⟨some 10, .call (F 26) [.tmp 9], none⟩,
 ⟨some 11, .call (F 132) [], none⟩,
 ⟨some 4, .move (.tmp 10), none⟩,
 ⟨some 5, .move (.tmp 11), none⟩])
 (.seq (.ops [⟨some 12, .move (.tmp 4), none⟩,
 ⟨some 13, .call (F 29) [.tmp 12], none⟩,
 ⟨some 6, .move (.tmp 13), none⟩])
 (.seq (.seq (.ops [⟨some 14, .move (.tmp 6), none⟩,
 ⟨some 15, .bin .lss (.tmp 14) (.const (.int .i64 0)), none⟩,
 ⟨some 16, .move (.tmp 15), none⟩,
 ⟨some 17, .move (.tmp 6), some (16, false)⟩,
 ⟨some 18, .bin .gtr (.tmp 17) (.const (.int .i64 4096)), some (16, false)⟩,
 ⟨some 19, .pick (.tmp 16) (.const (.bool true)) (.tmp 18), none⟩])
 (.cond (.tmp 19)
 (.seq (.ops [⟨some 2, .move (.const (.pointer none)), none⟩,
 ⟨some 3, .move (.const (.int .i64 3)), none⟩])
 (.ret))
 (.skip)))
 (.seq (.seq (.ops [⟨some 20, .move (.tmp 6), none⟩,
 ⟨some 21, .move (.const (.int .i64 0)), none⟩])
 (.block 0 (.loop (.seq (.ops [⟨some 22, .bin .lss (.tmp 21) (.tmp 20), none⟩])
 (.seq (.cond (.tmp 22)
 (.skip)
 (.exit 0))
 (.seq (.block 1 (.seq (.ops [⟨some 23, .move (.tmp 21), none⟩,
 ⟨some 7, .move (.tmp 23), none⟩])
 (.seq (.ops [⟨some 24, .move (.tmp 7), none⟩,
 ⟨some 25, .move (.tmp 4), none⟩,
 ⟨some 26, .call (F 37) [.tmp 25], none⟩,
 ⟨some 27, .move (.tmp 4), none⟩,
 ⟨some 28, .call (F 29) [.tmp 27], none⟩,
 ⟨some 29, .move (.tmp 4), none⟩,
 ⟨some 30, .call (F 29) [.tmp 29], none⟩,
 ⟨some 31, .move (.tmp 4), none⟩,
 ⟨some 32, .call (F 29) [.tmp 31], none⟩,
 ⟨some 33, .move (.tmp 4), none⟩,
 ⟨some 34, .call (F 27) [.tmp 33], none⟩,
 ⟨some 35, .build [.int .i64 0, .int .i64 0, .int .i64 0, .int .i64 0, .int .i64 0, .slice none 0 0] [((0, 1), .tmp 24), ((1, 1), .tmp 26), ((2, 1), .tmp 28), ((3, 1), .tmp 30), ((4, 1), .tmp 32), ((5, 1), .tmp 34)], none⟩,
 ⟨some 8, .alloc [.int .i64 0, .int .i64 0, .int .i64 0, .int .i64 0, .int .i64 0, .slice none 0 0], none⟩,
 ⟨none, .store 6 (.tmp 8) (.tmp 35), none⟩])
 (.seq (.seq (.ops [⟨some 36, .loadN 6 (.tmp 8), none⟩,
 ⟨some 37, .call (F 133) [.tmp 36], none⟩,
 ⟨some 38, .un .not (.tmp 37), none⟩,
 ⟨some 39, .move (.tmp 38), none⟩,
 ⟨some 40, .fieldAddr 1 (.tmp 8), some (39, false)⟩,
 ⟨some 41, .load1 (.tmp 40), some (39, false)⟩,
 ⟨some 42, .bin .lss (.tmp 41) (.const (.int .i64 1)), some (39, false)⟩,
 ⟨some 43, .pick (.tmp 39) (.const (.bool true)) (.tmp 42), none⟩,
 ⟨some 44, .move (.tmp 43), none⟩,
 ⟨some 45, .fieldAddr 1 (.tmp 8), some (44, false)⟩,
 ⟨some 46, .load1 (.tmp 45), some (44, false)⟩,
 ⟨some 47, .bin .gtr (.tmp 46) (.const (.int .i64 3)), some (44, false)⟩,
 ⟨some 48, .pick (.tmp 44) (.const (.bool true)) (.tmp 47), none⟩])
 (.cond (.tmp 48)
 (.seq (.ops [⟨some 2, .move (.const (.pointer none)), none⟩,
 ⟨some 3, .move (.const (.int .i64 3)), none⟩])
 (.ret))
 (.skip)))
 (.seq (.draw [(⟨some 49, .move (.tmp 5), none⟩, []),
 (⟨some 50, .move (.tmp 5), none⟩, []),
 (⟨some 51, .nilCheck (.tmp 50), none⟩, []),
 (⟨some 52, .fieldAddr 0 (.tmp 51), none⟩, []),
 (⟨some 53, .load1 (.tmp 52), none⟩, []),
 (⟨some 54, .loadN 6 (.tmp 8), none⟩, []),
 (⟨some 55, .buildSlice 1 [.int .i64 0, .int .i64 0, .int .i64 0, .int .i64 0, .int .i64 0, .slice none 0 0] [((0, 6), .tmp 54)], none⟩, []),
 (⟨some 56, .append 6 64 (.tmp 53) (.tmp 55), none⟩, []),
 (⟨some 57, .nilCheck (.tmp 49), none⟩, []),
 (⟨some 58, .fieldAddr 0 (.tmp 57), none⟩, []),
 (⟨none, .store 1 (.tmp 58) (.tmp 56), none⟩, [])])
 (.seq (.ops [⟨some 59, .fieldAddr 1 (.tmp 8), none⟩,
 ⟨some 60, .load1 (.tmp 59), none⟩,
 ⟨some 61, .bin .neq (.tmp 60) (.const (.int .i64 3)), none⟩])
 (.cond (.tmp 61)
 (.ops [⟨some 62, .move (.tmp 5), none⟩,
 ⟨some 63, .nilCheck (.tmp 62), none⟩,
 ⟨some 64, .fieldAddr 1 (.tmp 63), none⟩,
 ⟨some 65, .load1 (.tmp 64), none⟩,
 ⟨some 66, .bin .add (.tmp 65) (.const (.int .i64 1)), none⟩,
 ⟨some 67, .nilCheck (.tmp 62), none⟩,
 ⟨some 68, .fieldAddr 1 (.tmp 67), none⟩,
 ⟨none, .store 1 (.tmp 68) (.tmp 66), none⟩])
 (.skip))))))))
 (.ops [⟨some 69, .bin .add (.tmp 21) (.const (.int .i64 1)), none⟩,
 ⟨some 21, .move (.tmp 69), none⟩])))))))
 (.seq (.seq (.ops [⟨some 70, .move (.tmp 4), none⟩,
 ⟨some 71, .call (F 30) [.tmp 70], none⟩,
 ⟨some 72, .bin .neq (.tmp 71) (.const (.int .i64 0)), none⟩,
 ⟨some 73, .move (.tmp 72), none⟩,
 ⟨some 74, .move (.tmp 5), some (73, false)⟩,
 ⟨some 75, .nilCheck (.tmp 74), some (73, false)⟩,
 ⟨some 76, .fieldAddr 1 (.tmp 75), some (73, false)⟩,
 ⟨some 77, .load1 (.tmp 76), some (73, false)⟩,
 ⟨some 78, .bin .gtr (.tmp 77) (.const (.int .i64 256)), some (73, false)⟩,
 ⟨some 79, .pick (.tmp 73) (.const (.bool true)) (.tmp 78), none⟩])
 (.cond (.tmp 79)
 (.seq (.ops [⟨some 2, .move (.const (.pointer none)), none⟩,
 ⟨some 3, .move (.const (.int .i64 3)), none⟩])
 (.ret))
 (.skip)))
 (.seq (.ops [⟨some 80, .move (.tmp 5), none⟩,
 ⟨some 2, .move (.tmp 80), none⟩,
 ⟨some 3, .move (.const (.int .i64 0)), none⟩])
 (.ret)))))))⟩
/-- slices.Clone[[]int,int] -/
def c_slices_Clone_int_int (F : Nat → FuncId) (Ty : Nat → TypeId) : IFunc := ⟨8, [.tmp 2],
 .seq (.ops [⟨some 2, .move (.const (.slice none 0 0)), none⟩])
 (.seq (.seq (.ops [⟨some 3, .move (.tmp 0), none⟩,
 ⟨some 4, .eqNil 1 false (.tmp 3), none⟩])
 (.cond (.tmp 4)
 (.seq (.ops [⟨some 2, .move (.const (.slice none 0 0)), none⟩])
 (.ret))
 (.skip)))
 (.seq (.ops [⟨some 5, .buildSlice 0 [] [], none⟩,
 ⟨some 6, .move (.tmp 0), none⟩,
 ⟨some 7, .append 1 8 (.tmp 5) (.tmp 6), none⟩,
 ⟨some 2, .move (.tmp 7), none⟩])
 (.ret)))⟩
/-- slices.Index[[]int,int] -/
def c_slices_Index_int_int (F : Nat → FuncId) (Ty : Nat → TypeId) : IFunc := ⟨19, [.tmp 4],
 .seq (.ops [⟨some 4, .move (.const (.int .i64 0)), none⟩])
 (.seq (.seq (.ops [⟨some 6, .move (.tmp 0), none⟩,
 ⟨some 7, .lenSl (.tmp 6), none⟩,
 ⟨some 8, .move (.const (.int .i64 0)), none⟩])
 (.block 0 (.loop (.seq (.ops [⟨some 9, .bin .lss (.tmp 8) (.tmp 7), none⟩])
 (.seq (.cond (.tmp 9)
 (.skip)
 (.exit 0))
 (.seq (.block 1 (.seq (.ops [⟨some 10, .move (.tmp 8), none⟩,
 ⟨some 5, .move (.tmp 10), none⟩])
 (.seq (.ops [⟨some 11, .move (.tmp 1), none⟩,
 ⟨some 12, .move (.tmp 0), none⟩,
 ⟨some 13, .move (.tmp 5), none⟩,
 ⟨some 14, .idxSl 1 (.tmp 12) (.tmp 13), none⟩,
 ⟨some 15, .load1 (.tmp 14), none⟩,
 ⟨some 16, .bin .eql (.tmp 11) (.tmp 15), none⟩])
 (.cond (.tmp 16)
 (.seq (.ops [⟨some 17, .move (.tmp 5), none⟩,
 ⟨some 4, .move (.tmp 17), none⟩])
 (.ret))
 (.skip)))))
 (.ops [⟨some 18, .bin .add (.tmp 8) (.const (.int .i64 1)), none⟩,
 ⟨some 8, .move (.tmp 18), none⟩])))))))
 (.seq (.ops [⟨some 4, .move (.const (.int .i64 (-1))), none⟩])
 (.ret)))⟩
/-- slices.Contains[[]int,int] -/
def c_slices_Contains_int_int (F : Nat → FuncId) (Ty : Nat → TypeId) : IFunc := ⟨9, [.tmp 4],
 .seq (.ops [⟨some 4, .move (.const (.bool false)), none⟩])
 (.seq (.ops [⟨some 5, .move (.tmp 0), none⟩,
 ⟨some 6, .move (.tmp 1), none⟩,
 ⟨some 7, .call (F 110) [.tmp 5, .tmp 6], none⟩,
 ⟨some 8, .bin .geq (.tmp 7) (.const (.int .i64 0)), none⟩,
 ⟨some 4, .move (.tmp 8), none⟩])
 (.ret))⟩
/-- A context has these functions. -/
structure HasSmap (c : Ctx) : Prop where
 smap_New : c.IP (c.F 132) = some (c_smap_New c.F c.Ty)
 smap_may : c.IP (c.F 133) = some (c_smap_may c.F c.Ty)
 smap_group : c.IP (c.F 134) = some (c_smap_group c.F c.Ty)
 smap_Map_Begin : c.IP (c.F 135) = some (c_smap_Map_Begin c.F c.Ty)
 smap_Map_at : c.IP (c.F 136) = some (c_smap_Map_at c.F c.Ty)
 smap_Map_Commit : c.IP (c.F 137) = some (c_smap_Map_Commit c.F c.Ty)
 smap_Map_Free : c.IP (c.F 138) = some (c_smap_Map_Free c.F c.Ty)
 smap_Map_which : c.IP (c.F 139) = some (c_smap_Map_which c.F c.Ty)
 smap_Map_Drop : c.IP (c.F 140) = some (c_smap_Map_Drop c.F c.Ty)
 smap_Map_Drop_F1 : c.IP (c.F 141) = some (c_smap_Map_Drop_F1 c.F c.Ty)
 smap_Map_Move : c.IP (c.F 142) = some (c_smap_Map_Move c.F c.Ty)
 smap_Map_Get : c.IP (c.F 143) = some (c_smap_Map_Get c.F c.Ty)
 smap_Map_List : c.IP (c.F 144) = some (c_smap_Map_List c.F c.Ty)
 smap_Map_List_F1 : c.IP (c.F 145) = some (c_smap_Map_List_F1 c.F c.Ty)
 smap_Map_On : c.IP (c.F 146) = some (c_smap_Map_On c.F c.Ty)
 smap_Map_On_F1 : c.IP (c.F 147) = some (c_smap_Map_On_F1 c.F c.Ty)
 smap_Map_Text : c.IP (c.F 148) = some (c_smap_Map_Text c.F c.Ty)
 smap_Map_Text_F1 : c.IP (c.F 149) = some (c_smap_Map_Text_F1 c.F c.Ty)
 smap_Map_Text_F2 : c.IP (c.F 150) = some (c_smap_Map_Text_F2 c.F c.Ty)
 smap_Map_Text_F3 : c.IP (c.F 151) = some (c_smap_Map_Text_F3 c.F c.Ty)
 smap_Read : c.IP (c.F 152) = some (c_smap_Read c.F c.Ty)
 slices_Clone_int_int : c.IP (c.F 153) = some (c_slices_Clone_int_int c.F c.Ty)
 slices_Index_int_int : c.IP (c.F 110) = some (c_slices_Index_int_int c.F c.Ty)
 slices_Contains_int_int : c.IP (c.F 154) = some (c_slices_Contains_int_int c.F c.Ty)

end Go.Proofs.YtmdkkhnenciknaaI
