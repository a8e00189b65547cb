/- PRINTED by gen.py (this session's own): the intermediate form of some functions, and a context's having them. / Stripes that are known: plain laws, and how they stand in the heap. / Stripes that are known: the small functions. / Stripes that are known: deeds. -/
import Derived.Test.YtndndcdblfejnaaGreatRFarM
import Derived.Test.YtndndcdblfejnaaGreatRCodecPM
namespace Go.Proofs.YtndndcdblfejnaaGreatRI
set_option linter.unusedSimpArgs false
set_option linter.unusedVariables false
open Go

/-- hurdle/smap.New -/
abbrev n_smap_New : Nat := 132
/-- hurdle/smap.may -/
abbrev n_smap_may : Nat := 133
/-- hurdle/smap.group -/
abbrev n_smap_group : Nat := 134
/-- (*hurdle/smap.Map).Begin -/
abbrev n_smap_Map_Begin : Nat := 135
/-- (*hurdle/smap.Map).at -/
abbrev n_smap_Map_at : Nat := 136
/-- (*hurdle/smap.Map).Commit -/
abbrev n_smap_Map_Commit : Nat := 137
/-- (*hurdle/smap.Map).Free -/
abbrev n_smap_Map_Free : Nat := 138
/-- (*hurdle/smap.Map).which -/
abbrev n_smap_Map_which : Nat := 139
/-- (*hurdle/smap.Map).Move -/
abbrev n_smap_Map_Move : Nat := 142
/-- (*hurdle/smap.Map).Get -/
abbrev n_smap_Map_Get : Nat := 143
/-- (*hurdle/smap.Map).List -/
abbrev n_smap_Map_List : Nat := 144
/-- (*hurdle/smap.Map).List$1 -/
abbrev n_smap_Map_List_F1 : Nat := 145
/-- (*hurdle/smap.Map).On -/
abbrev n_smap_Map_On : Nat := 146
/-- (*hurdle/smap.Map).On$1 -/
abbrev n_smap_Map_On_F1 : Nat := 147
/-- slices.Clone[[]int,int] -/
abbrev n_slices_Clone_int_int : Nat := 153
/-- slices.Contains[[]int,int] -/
abbrev n_slices_Contains_int_int : Nat := 154
/-- hurdle/smap.New -/
def c_smap_New (F : Nat → FuncId) (Ty : Nat → TypeId) : IFunc := ⟨3, [.tmp 0],
 .seq (.ops [⟨some 0, .move (.const (.pointer none)), none⟩])
 (.seq (.ops [⟨some 1, .build [.slice none 0 0, .int .i64 0] [], none⟩,
 ⟨some 2, .box (.tmp 1), none⟩,
 ⟨some 0, .move (.tmp 2), none⟩])
 (.ret))⟩
/-- hurdle/smap.may -/
def c_smap_may (F : Nat → FuncId) (Ty : Nat → TypeId) : IFunc := ⟨31, [.tmp 2],
 .seq (.ops [⟨some 1, .box (.tmp 0), none⟩,
 ⟨some 2, .move (.const (.bool false)), none⟩])
 (.seq (.ops [⟨some 3, .fieldAddr 2 (.tmp 1), none⟩,
 ⟨some 4, .load1 (.tmp 3), none⟩,
 ⟨some 5, .bin .geq (.tmp 4) (.const (.int .i64 0)), none⟩,
 ⟨some 6, .move (.tmp 5), none⟩,
 ⟨some 7, .fieldAddr 2 (.tmp 1), some (6, true)⟩,
 ⟨some 8, .load1 (.tmp 7), some (6, true)⟩,
 ⟨some 9, .bin .lss (.tmp 8) (.const (.int .i64 16)), some (6, true)⟩,
 ⟨some 10, .pick (.tmp 6) (.tmp 9) (.const (.bool false)), none⟩,
 ⟨some 11, .move (.tmp 10), none⟩,
 ⟨some 12, .fieldAddr 3 (.tmp 1), some (11, true)⟩,
 ⟨some 13, .load1 (.tmp 12), some (11, true)⟩,
 ⟨some 14, .bin .geq (.tmp 13) (.const (.int .i64 1)), some (11, true)⟩,
 ⟨some 15, .pick (.tmp 11) (.tmp 14) (.const (.bool false)), none⟩,
 ⟨some 16, .move (.tmp 15), none⟩,
 ⟨some 17, .fieldAddr 4 (.tmp 1), some (16, true)⟩,
 ⟨some 18, .load1 (.tmp 17), some (16, true)⟩,
 ⟨some 19, .bin .geq (.tmp 18) (.const (.int .i64 0)), some (16, true)⟩,
 ⟨some 20, .pick (.tmp 16) (.tmp 19) (.const (.bool false)), none⟩,
 ⟨some 21, .move (.tmp 20), none⟩,
 ⟨some 22, .fieldAddr 4 (.tmp 1), some (21, true)⟩,
 ⟨some 23, .load1 (.tmp 22), some (21, true)⟩,
 ⟨some 24, .bin .leq (.tmp 23) (.const (.int .i64 65536)), some (21, true)⟩,
 ⟨some 25, .pick (.tmp 21) (.tmp 24) (.const (.bool false)), none⟩,
 ⟨some 26, .move (.tmp 25), none⟩,
 ⟨some 27, .fieldAddr 5 (.tmp 1), some (26, true)⟩,
 ⟨some 28, .load1 (.tmp 27), some (26, true)⟩,
 ⟨some 29, .call (F 134) [.tmp 28], some (26, true)⟩,
 ⟨some 30, .pick (.tmp 26) (.tmp 29) (.const (.bool false)), none⟩,
 ⟨some 2, .move (.tmp 30), none⟩])
 (.ret))⟩
/-- hurdle/smap.group -/
def c_smap_group (F : Nat → FuncId) (Ty : Nat → TypeId) : IFunc := ⟨34, [.tmp 2],
 .seq (.ops [⟨some 2, .move (.const (.bool false)), none⟩])
 (.seq (.seq (.ops [⟨some 5, .move (.tmp 0), none⟩,
 ⟨some 6, .lenSl (.tmp 5), none⟩,
 ⟨some 7, .bin .lss (.tmp 6) (.const (.int .i64 2)), none⟩,
 ⟨some 8, .move (.tmp 7), none⟩,
 ⟨some 9, .move (.tmp 0), some (8, false)⟩,
 ⟨some 10, .lenSl (.tmp 9), some (8, false)⟩,
 ⟨some 11, .bin .gtr (.tmp 10) (.const (.int .i64 8)), some (8, false)⟩,
 ⟨some 12, .pick (.tmp 8) (.const (.bool true)) (.tmp 11), none⟩])
 (.cond (.tmp 12)
 (.seq (.ops [⟨some 2, .move (.const (.bool false)), none⟩])
 (.ret))
 (.skip)))
 (.seq (.seq (.ops [⟨some 13, .move (.tmp 0), none⟩,
 ⟨some 14, .lenSl (.tmp 13), none⟩,
 ⟨some 15, .move (.const (.int .i64 0)), none⟩])
 (.block 0 (.loop (.seq (.ops [⟨some 16, .bin .lss (.tmp 15) (.tmp 14), none⟩])
 (.seq (.cond (.tmp 16)
 (.skip)
 (.exit 0))
 (.seq (.block 1 (.seq (.ops [⟨some 17, .move (.tmp 15), none⟩,
 ⟨some 18, .idxSl 1 (.tmp 13) (.tmp 15), none⟩,
 ⟨some 19, .load1 (.tmp 18), none⟩,
 ⟨some 3, .move (.tmp 17), none⟩,
 ⟨some 4, .move (.tmp 19), none⟩])
 (.seq (.ops [⟨some 20, .move (.tmp 4), none⟩,
 ⟨some 21, .bin .lss (.tmp 20) (.const (.int .i64 0)), none⟩,
 ⟨some 22, .move (.tmp 21), none⟩,
 ⟨some 23, .move (.tmp 4), some (22, false)⟩,
 ⟨some 24, .bin .geq (.tmp 23) (.const (.int .i64 64)), some (22, false)⟩,
 ⟨some 25, .pick (.tmp 22) (.const (.bool true)) (.tmp 24), none⟩,
 ⟨some 26, .move (.tmp 25), none⟩,
 ⟨some 27, .move (.tmp 0), some (26, false)⟩,
 ⟨some 28, .move (.tmp 3), some (26, false)⟩,
 ⟨some 29, .sliceSl 1 (.tmp 27) none (some (.tmp 28)) none, some (26, false)⟩,
 ⟨some 30, .move (.tmp 4), some (26, false)⟩,
 ⟨some 31, .call (F 154) [.tmp 29, .tmp 30], some (26, false)⟩,
 ⟨some 32, .pick (.tmp 26) (.const (.bool true)) (.tmp 31), none⟩])
 (.cond (.tmp 32)
 (.seq (.ops [⟨some 2, .move (.const (.bool false)), none⟩])
 (.ret))
 (.skip)))))
 (.ops [⟨some 33, .bin .add (.tmp 15) (.const (.int .i64 1)), none⟩,
 ⟨some 15, .move (.tmp 33), none⟩])))))))
 (.seq (.ops [⟨some 2, .move (.const (.bool true)), none⟩])
 (.ret))))⟩
/-- (*hurdle/smap.Map).Begin -/
def c_smap_Map_Begin (F : Nat → FuncId) (Ty : Nat → TypeId) : IFunc := ⟨66, [.tmp 10, .tmp 11],
 .seq (.ops [⟨some 10, .move (.const (.int .i64 0)), none⟩,
 ⟨some 11, .move (.const (.int .i64 0)), none⟩])
 (.seq (.ops [⟨some 13, .move (.tmp 1), none⟩,
 ⟨some 14, .move (.tmp 2), none⟩,
 ⟨some 15, .move (.tmp 3), none⟩,
 ⟨some 16, .move (.tmp 4), none⟩,
 ⟨some 17, .call (F 153) [.tmp 16], none⟩,
 ⟨some 18, .build [.int .i64 0, .int .i64 0, .int .i64 0, .int .i64 0, .int .i64 0, .slice none 0 0] [((1, 1), .const (.int .i64 1)), ((2, 1), .tmp 13), ((3, 1), .tmp 14), ((4, 1), .tmp 15), ((5, 1), .tmp 17)], none⟩,
 ⟨some 12, .alloc [.int .i64 0, .int .i64 0, .int .i64 0, .int .i64 0, .int .i64 0, .slice none 0 0], none⟩,
 ⟨none, .store 6 (.tmp 12) (.tmp 18), none⟩])
 (.seq (.block 0 (.seq (.ops [⟨some 20, .move (.tmp 0), none⟩,
 ⟨some 21, .eqNil 0 false (.tmp 20), none⟩,
 ⟨some 22, .move (.tmp 21), none⟩,
 ⟨some 23, .loadN 6 (.tmp 12), some (22, false)⟩,
 ⟨some 24, .call (F 133) [.tmp 23], some (22, false)⟩,
 ⟨some 25, .un .not (.tmp 24), some (22, false)⟩,
 ⟨some 26, .pick (.tmp 22) (.const (.bool true)) (.tmp 25), none⟩,
 ⟨some 19, .move (.tmp 26), none⟩])
 (.cond (.tmp 19)
 (.seq (.ops [⟨some 10, .move (.const (.int .i64 0)), none⟩,
 ⟨some 11, .move (.const (.int .i64 1)), none⟩])
 (.ret))
 (.seq (.ops [⟨some 28, .move (.tmp 0), none⟩,
 ⟨some 29, .nilCheck (.tmp 28), none⟩,
 ⟨some 30, .fieldAddr 1 (.tmp 29), none⟩,
 ⟨some 31, .load1 (.tmp 30), none⟩,
 ⟨some 32, .bin .geq (.tmp 31) (.const (.int .i64 256)), none⟩,
 ⟨some 33, .move (.tmp 32), none⟩,
 ⟨some 34, .move (.tmp 0), some (33, false)⟩,
 ⟨some 35, .nilCheck (.tmp 34), some (33, false)⟩,
 ⟨some 36, .fieldAddr 0 (.tmp 35), some (33, false)⟩,
 ⟨some 37, .load1 (.tmp 36), some (33, false)⟩,
 ⟨some 38, .lenSl (.tmp 37), some (33, false)⟩,
 ⟨some 39, .bin .geq (.tmp 38) (.const (.int .i64 4096)), some (33, false)⟩,
 ⟨some 40, .pick (.tmp 33) (.const (.bool true)) (.tmp 39), none⟩,
 ⟨some 27, .move (.tmp 40), none⟩])
 (.cond (.tmp 27)
 (.seq (.ops [⟨some 10, .move (.const (.int .i64 0)), none⟩,
 ⟨some 11, .move (.const (.int .i64 5)), none⟩])
 (.ret))
 (.skip))))))
 (.seq (.ops [⟨some 41, .move (.tmp 0), none⟩,
 ⟨some 42, .nilCheck (.tmp 41), none⟩,
 ⟨some 43, .fieldAddr 0 (.tmp 42), none⟩,
 ⟨some 44, .load1 (.tmp 43), none⟩,
 ⟨some 45, .lenSl (.tmp 44), none⟩,
 ⟨some 46, .fieldAddr 0 (.tmp 12), none⟩,
 ⟨none, .store 1 (.tmp 46) (.tmp 45), none⟩])
 (.seq (.draw [(⟨some 47, .move (.tmp 0), none⟩, []),
 (⟨some 48, .move (.tmp 0), none⟩, []),
 (⟨some 49, .nilCheck (.tmp 48), none⟩, []),
 (⟨some 50, .fieldAddr 0 (.tmp 49), none⟩, []),
 (⟨some 51, .load1 (.tmp 50), none⟩, []),
 (⟨some 52, .loadN 6 (.tmp 12), none⟩, []),
 (⟨some 53, .buildSlice 1 [.int .i64 0, .int .i64 0, .int .i64 0, .int .i64 0, .int .i64 0, .slice none 0 0] [((0, 6), .tmp 52)], none⟩, []),
 (⟨some 54, .append 6 64 (.tmp 51) (.tmp 53), none⟩, []),
 (⟨some 55, .nilCheck (.tmp 47), none⟩, []),
 (⟨some 56, .fieldAddr 0 (.tmp 55), none⟩, []),
 (⟨none, .store 1 (.tmp 56) (.tmp 54), none⟩, [])])
 (.seq (.ops [⟨some 57, .move (.tmp 0), none⟩,
 ⟨some 58, .nilCheck (.tmp 57), none⟩,
 ⟨some 59, .fieldAddr 1 (.tmp 58), none⟩,
 ⟨some 60, .load1 (.tmp 59), none⟩,
 ⟨some 61, .bin .add (.tmp 60) (.const (.int .i64 1)), none⟩,
 ⟨some 62, .nilCheck (.tmp 57), none⟩,
 ⟨some 63, .fieldAddr 1 (.tmp 62), none⟩,
 ⟨none, .store 1 (.tmp 63) (.tmp 61), none⟩])
 (.seq (.ops [⟨some 64, .fieldAddr 0 (.tmp 12), none⟩,
 ⟨some 65, .load1 (.tmp 64), none⟩,
 ⟨some 10, .move (.tmp 65), none⟩,
 ⟨some 11, .move (.const (.int .i64 0)), none⟩])
 (.ret)))))))⟩
/-- (*hurdle/smap.Map).at -/
def c_smap_Map_at (F : Nat → FuncId) (Ty : Nat → TypeId) : IFunc := ⟨26, [.tmp 4],
 .seq (.ops [⟨some 4, .move (.const (.pointer none)), none⟩])
 (.seq (.seq (.ops [⟨some 5, .move (.tmp 0), none⟩,
 ⟨some 6, .eqNil 0 false (.tmp 5), none⟩,
 ⟨some 7, .move (.tmp 6), none⟩,
 ⟨some 8, .move (.tmp 1), some (7, false)⟩,
 ⟨some 9, .bin .lss (.tmp 8) (.const (.int .i64 0)), some (7, false)⟩,
 ⟨some 10, .pick (.tmp 7) (.const (.bool true)) (.tmp 9), none⟩,
 ⟨some 11, .move (.tmp 10), none⟩,
 ⟨some 12, .move (.tmp 1), some (11, false)⟩,
 ⟨some 13, .move (.tmp 0), some (11, false)⟩,
 ⟨some 14, .nilCheck (.tmp 13), some (11, false)⟩,
 ⟨some 15, .fieldAddr 0 (.tmp 14), some (11, false)⟩,
 ⟨some 16, .load1 (.tmp 15), some (11, false)⟩,
 ⟨some 17, .lenSl (.tmp 16), some (11, false)⟩,
 ⟨some 18, .bin .geq (.tmp 12) (.tmp 17), some (11, false)⟩,
 ⟨some 19, .pick (.tmp 11) (.const (.bool true)) (.tmp 18), none⟩])
 (.cond (.tmp 19)
 (.seq (.ops [⟨some 4, .move (.const (.pointer none)), none⟩])
 (.ret))
 (.skip)))
 (.seq (.ops [⟨some 20, .move (.tmp 0), none⟩,
 ⟨some 21, .nilCheck (.tmp 20), none⟩,
 ⟨some 22, .fieldAddr 0 (.tmp 21), none⟩,
 ⟨some 23, .load1 (.tmp 22), none⟩,
 ⟨some 24, .move (.tmp 1), none⟩,
 ⟨some 25, .idxSl 6 (.tmp 23) (.tmp 24), none⟩,
 ⟨some 4, .move (.tmp 25), none⟩])
 (.ret)))⟩
/-- (*hurdle/smap.Map).Commit -/
def c_smap_Map_Commit (F : Nat → FuncId) (Ty : Nat → TypeId) : IFunc := ⟨33, [.tmp 6],
 .seq (.ops [⟨some 6, .move (.const (.int .i64 0)), none⟩])
 (.seq (.seq (.ops [⟨some 8, .move (.tmp 0), none⟩,
 ⟨some 9, .eqNil 0 false (.tmp 8), none⟩])
 (.cond (.tmp 9)
 (.seq (.ops [⟨some 6, .move (.const (.int .i64 1)), none⟩])
 (.ret))
 (.skip)))
 (.seq (.ops [⟨some 10, .move (.tmp 0), none⟩,
 ⟨some 11, .move (.tmp 1), none⟩,
 ⟨some 12, .call (F 136) [.tmp 10, .tmp 11], none⟩,
 ⟨some 7, .move (.tmp 12), none⟩])
 (.seq (.block 0 (.seq (.ops [⟨some 14, .move (.tmp 7), none⟩,
 ⟨some 15, .eqNil 0 false (.tmp 14), none⟩,
 ⟨some 13, .move (.tmp 15), none⟩])
 (.cond (.tmp 13)
 (.seq (.ops [⟨some 6, .move (.const (.int .i64 7)), none⟩])
 (.ret))
 (.seq (.ops [⟨some 17, .move (.tmp 7), none⟩,
 ⟨some 18, .nilCheck (.tmp 17), none⟩,
 ⟨some 19, .fieldAddr 1 (.tmp 18), none⟩,
 ⟨some 20, .load1 (.tmp 19), none⟩,
 ⟨some 21, .bin .neq (.tmp 20) (.const (.int .i64 1)), none⟩,
 ⟨some 22, .move (.tmp 21), none⟩,
 ⟨some 23, .move (.tmp 7), some (22, false)⟩,
 ⟨some 24, .nilCheck (.tmp 23), some (22, false)⟩,
 ⟨some 25, .fieldAddr 2 (.tmp 24), some (22, false)⟩,
 ⟨some 26, .load1 (.tmp 25), some (22, false)⟩,
 ⟨some 27, .move (.tmp 2), some (22, false)⟩,
 ⟨some 28, .bin .neq (.tmp 26) (.tmp 27), some (22, false)⟩,
 ⟨some 29, .pick (.tmp 22) (.const (.bool true)) (.tmp 28), none⟩,
 ⟨some 16, .move (.tmp 29), none⟩])
 (.cond (.tmp 16)
 (.seq (.ops [⟨some 6, .move (.const (.int .i64 16)), none⟩])
 (.ret))
 (.skip))))))
 (.seq (.ops [⟨some 30, .move (.tmp 7), none⟩,
 ⟨some 31, .nilCheck (.tmp 30), none⟩,
 ⟨some 32, .fieldAddr 1 (.tmp 31), none⟩,
 ⟨none, .store 1 (.tmp 32) (.const (.int .i64 2)), none⟩])
 (.seq (.ops [⟨some 6, .move (.const (.int .i64 0)), none⟩])
 (.ret))))))⟩
/-- (*hurdle/smap.Map).Free -/
def c_smap_Map_Free (F : Nat → FuncId) (Ty : Nat → TypeId) : IFunc := ⟨31, [.tmp 4],
 .seq (.ops [⟨some 4, .move (.const (.int .i64 0)), none⟩])
 (.seq (.seq (.ops [⟨some 6, .move (.tmp 0), none⟩,
 ⟨some 7, .eqNil 0 false (.tmp 6), none⟩])
 (.cond (.tmp 7)
 (.seq (.ops [⟨some 4, .move (.const (.int .i64 1)), none⟩])
 (.ret))
 (.skip)))
 (.seq (.ops [⟨some 8, .move (.tmp 0), none⟩,
 ⟨some 9, .move (.tmp 1), none⟩,
 ⟨some 10, .call (F 136) [.tmp 8, .tmp 9], none⟩,
 ⟨some 5, .move (.tmp 10), none⟩])
 (.seq (.seq (.ops [⟨some 11, .move (.tmp 5), none⟩,
 ⟨some 12, .eqNil 0 false (.tmp 11), none⟩])
 (.cond (.tmp 12)
 (.seq (.ops [⟨some 4, .move (.const (.int .i64 7)), none⟩])
 (.ret))
 (.skip)))
 (.seq (.seq (.ops [⟨some 13, .move (.tmp 5), none⟩,
 ⟨some 14, .nilCheck (.tmp 13), none⟩,
 ⟨some 15, .fieldAddr 1 (.tmp 14), none⟩,
 ⟨some 16, .load1 (.tmp 15), none⟩])
 (.block 0 (.seq (.block 2 (.block 1 (.seq (.seq (.seq (.ops [⟨some 18, .bin .eql (.tmp 16) (.const (.int .i64 1)), none⟩,
 ⟨some 17, .move (.tmp 18), none⟩])
 (.cond (.tmp 17)
 (.exit 1)
 (.skip)))
 (.seq (.ops [⟨some 20, .bin .eql (.tmp 16) (.const (.int .i64 2)), none⟩,
 ⟨some 19, .move (.tmp 20), none⟩])
 (.cond (.tmp 19)
 (.exit 2)
 (.skip))))
 (.exit 0))))
 (.seq (.seq (.ops [⟨some 21, .move (.tmp 5), none⟩,
 ⟨some 22, .nilCheck (.tmp 21), none⟩,
 ⟨some 23, .fieldAddr 1 (.tmp 22), none⟩,
 ⟨none, .store 1 (.tmp 23) (.const (.int .i64 3)), none⟩])
 (.seq (.ops [⟨some 24, .move (.tmp 0), none⟩,
 ⟨some 25, .nilCheck (.tmp 24), none⟩,
 ⟨some 26, .fieldAddr 1 (.tmp 25), none⟩,
 ⟨some 27, .load1 (.tmp 26), none⟩,
 ⟨some 28, .bin .sub (.tmp 27) (.const (.int .i64 1)), none⟩,
 ⟨some 29, .nilCheck (.tmp 24), none⟩,
 ⟨some 30, .fieldAddr 1 (.tmp 29), none⟩,
 ⟨none, .store 1 (.tmp 30) (.tmp 28), none⟩])
 (.seq (.ops [⟨some 4, .move (.const (.int .i64 0)), none⟩])
 (.ret))))
 (.exit 0)))))
 (.seq (.ops [⟨some 4, .move (.const (.int .i64 16)), none⟩])
 (.ret))))))⟩
/-- (*hurdle/smap.Map).which -/
def c_smap_Map_which (F : Nat → FuncId) (Ty : Nat → TypeId) : IFunc := ⟨29, [.tmp 4],
 .seq (.ops [⟨some 4, .move (.const (.slice none 0 0)), none⟩])
 (.seq (.ops [⟨some 5, .move (.const (.slice none 0 0)), none⟩])
 (.seq (.seq (.ops [⟨some 8, .move (.tmp 0), none⟩,
 ⟨some 9, .eqNil 0 true (.tmp 8), none⟩])
 (.cond (.tmp 9)
 (.seq (.ops [⟨some 10, .move (.tmp 0), none⟩,
 ⟨some 11, .nilCheck (.tmp 10), none⟩,
 ⟨some 12, .fieldAddr 0 (.tmp 11), none⟩,
 ⟨some 13, .load1 (.tmp 12), none⟩,
 ⟨some 14, .lenSl (.tmp 13), none⟩,
 ⟨some 15, .move (.const (.int .i64 0)), none⟩])
 (.block 0 (.loop (.seq (.ops [⟨some 16, .bin .lss (.tmp 15) (.tmp 14), none⟩])
 (.seq (.cond (.tmp 16)
 (.skip)
 (.exit 0))
 (.seq (.block 1 (.seq (.ops [⟨some 17, .idxSl 6 (.tmp 13) (.tmp 15), none⟩,
 ⟨some 18, .loadN 6 (.tmp 17), none⟩,
 ⟨some 7, .alloc [.int .i64 0, .int .i64 0, .int .i64 0, .int .i64 0, .int .i64 0, .slice none 0 0], none⟩,
 ⟨none, .store 6 (.tmp 7) (.tmp 18), none⟩])
 (.seq (.ops [⟨some 19, .move (.tmp 1), none⟩,
 ⟨some 20, .loadN 6 (.tmp 7), none⟩,
 ⟨some 21, .callDyn (.tmp 19) [.tmp 20], none⟩])
 (.cond (.tmp 21)
 (.ops [⟨some 22, .move (.tmp 5), none⟩,
 ⟨some 23, .fieldAddr 0 (.tmp 7), none⟩,
 ⟨some 24, .load1 (.tmp 23), none⟩,
 ⟨some 25, .buildSlice 1 [.int .i64 0] [((0, 1), .tmp 24)], none⟩,
 ⟨some 26, .append 1 8 (.tmp 22) (.tmp 25), none⟩,
 ⟨some 5, .move (.tmp 26), none⟩])
 (.skip)))))
 (.ops [⟨some 27, .bin .add (.tmp 15) (.const (.int .i64 1)), none⟩,
 ⟨some 15, .move (.tmp 27), none⟩])))))))
 (.skip)))
 (.seq (.ops [⟨some 28, .move (.tmp 5), none⟩,
 ⟨some 4, .move (.tmp 28), none⟩])
 (.ret))))⟩
/-- (*hurdle/smap.Map).Move -/
def c_smap_Map_Move (F : Nat → FuncId) (Ty : Nat → TypeId) : IFunc := ⟨68, [.tmp 8],
 .seq (.ops [⟨some 8, .move (.const (.int .i64 0)), none⟩])
 (.seq (.ops [⟨some 12, .move (.tmp 0), none⟩,
 ⟨some 13, .move (.tmp 1), none⟩,
 ⟨some 14, .call (F 136) [.tmp 12, .tmp 13], none⟩,
 ⟨some 9, .move (.tmp 14), none⟩,
 ⟨some 10, .move (.const (.int .i64 8)), none⟩])
 (.seq (.seq (.ops [⟨some 15, .move (.tmp 9), none⟩,
 ⟨some 16, .eqNil 0 true (.tmp 15), none⟩])
 (.cond (.tmp 16)
 (.ops [⟨some 17, .move (.tmp 9), none⟩,
 ⟨some 18, .nilCheck (.tmp 17), none⟩,
 ⟨some 19, .fieldAddr 5 (.tmp 18), none⟩,
 ⟨some 20, .load1 (.tmp 19), none⟩,
 ⟨some 21, .lenSl (.tmp 20), none⟩,
 ⟨some 10, .move (.tmp 21), none⟩])
 (.skip)))
 (.seq (.seq (.ops [⟨some 22, .move (.tmp 0), none⟩,
 ⟨some 23, .eqNil 0 false (.tmp 22), none⟩,
 ⟨some 24, .move (.tmp 23), none⟩,
 ⟨some 25, .move (.tmp 2), some (24, false)⟩,
 ⟨some 26, .bin .lss (.tmp 25) (.const (.int .i64 0)), some (24, false)⟩,
 ⟨some 27, .pick (.tmp 24) (.const (.bool true)) (.tmp 26), none⟩,
 ⟨some 28, .move (.tmp 27), none⟩,
 ⟨some 29, .move (.tmp 2), some (28, false)⟩,
 ⟨some 30, .move (.tmp 10), some (28, false)⟩,
 ⟨some 31, .bin .geq (.tmp 29) (.tmp 30), some (28, false)⟩,
 ⟨some 32, .pick (.tmp 28) (.const (.bool true)) (.tmp 31), none⟩,
 ⟨some 33, .move (.tmp 32), none⟩,
 ⟨some 34, .move (.tmp 3), some (33, false)⟩,
 ⟨some 35, .bin .lss (.tmp 34) (.const (.int .i64 0)), some (33, false)⟩,
 ⟨some 36, .pick (.tmp 33) (.const (.bool true)) (.tmp 35), none⟩,
 ⟨some 37, .move (.tmp 36), none⟩,
 ⟨some 38, .move (.tmp 3), some (37, false)⟩,
 ⟨some 39, .bin .geq (.tmp 38) (.const (.int .i64 64)), some (37, false)⟩,
 ⟨some 40, .pick (.tmp 37) (.const (.bool true)) (.tmp 39), none⟩])
 (.cond (.tmp 40)
 (.seq (.ops [⟨some 8, .move (.const (.int .i64 1)), none⟩])
 (.ret))
 (.skip)))
 (.seq (.seq (.ops [⟨some 41, .move (.tmp 9), none⟩,
 ⟨some 42, .eqNil 0 false (.tmp 41), none⟩])
 (.cond (.tmp 42)
 (.seq (.ops [⟨some 8, .move (.const (.int .i64 7)), none⟩])
 (.ret))
 (.skip)))
 (.seq (.seq (.ops [⟨some 43, .move (.tmp 9), none⟩,
 ⟨some 44, .nilCheck (.tmp 43), none⟩,
 ⟨some 45, .fieldAddr 5 (.tmp 44), none⟩,
 ⟨some 46, .load1 (.tmp 45), none⟩,
 ⟨some 47, .move (.tmp 3), none⟩,
 ⟨some 48, .call (F 110) [.tmp 46, .tmp 47], none⟩,
 ⟨some 11, .move (.tmp 48), none⟩])
 (.seq (.ops [⟨some 49, .move (.tmp 11), none⟩,
 ⟨some 50, .bin .geq (.tmp 49) (.const (.int .i64 0)), none⟩,
 ⟨some 51, .move (.tmp 50), none⟩,
 ⟨some 52, .move (.tmp 11), some (51, true)⟩,
 ⟨some 53, .move (.tmp 2), some (51, true)⟩,
 ⟨some 54, .bin .neq (.tmp 52) (.tmp 53), some (51, true)⟩,
 ⟨some 55, .pick (.tmp 51) (.tmp 54) (.const (.bool false)), none⟩])
 (.cond (.tmp 55)
 (.seq (.ops [⟨some 8, .move (.const (.int .i64 6)), none⟩])
 (.ret))
 (.skip))))
 (.seq (.seq (.ops [⟨some 56, .move (.tmp 9), none⟩,
 ⟨some 57, .nilCheck (.tmp 56), none⟩,
 ⟨some 58, .fieldAddr 1 (.tmp 57), none⟩,
 ⟨some 59, .load1 (.tmp 58), none⟩,
 ⟨some 60, .bin .eql (.tmp 59) (.const (.int .i64 3)), none⟩])
 (.cond (.tmp 60)
 (.seq (.ops [⟨some 8, .move (.const (.int .i64 16)), none⟩])
 (.ret))
 (.skip)))
 (.seq (.ops [⟨some 61, .move (.tmp 9), none⟩,
 ⟨some 62, .nilCheck (.tmp 61), none⟩,
 ⟨some 63, .fieldAddr 5 (.tmp 62), none⟩,
 ⟨some 64, .load1 (.tmp 63), none⟩,
 ⟨some 65, .move (.tmp 2), none⟩,
 ⟨some 66, .move (.tmp 3), none⟩,
 ⟨some 67, .idxSl 1 (.tmp 64) (.tmp 65), none⟩,
 ⟨none, .store 1 (.tmp 67) (.tmp 66), none⟩])
 (.seq (.ops [⟨some 8, .move (.const (.int .i64 0)), none⟩])
 (.ret)))))))))⟩
/-- (*hurdle/smap.Map).Get -/
def c_smap_Map_Get (F : Nat → FuncId) (Ty : Nat → TypeId) : IFunc := ⟨22, [.cellN 4 6, .tmp 5],
 .seq (.ops [⟨some 4, .alloc [.int .i64 0, .int .i64 0, .int .i64 0, .int .i64 0, .int .i64 0, .slice none 0 0], none⟩,
 ⟨some 5, .move (.const (.bool false)), none⟩])
 (.seq (.ops [⟨some 8, .move (.tmp 0), none⟩,
 ⟨some 9, .move (.tmp 1), none⟩,
 ⟨some 10, .call (F 136) [.tmp 8, .tmp 9], none⟩,
 ⟨some 6, .move (.tmp 10), none⟩])
 (.seq (.seq (.ops [⟨some 11, .move (.tmp 6), none⟩,
 ⟨some 12, .eqNil 0 false (.tmp 11), none⟩])
 (.cond (.tmp 12)
 (.seq (.ops [⟨some 13, .build [.int .i64 0, .int .i64 0, .int .i64 0, .int .i64 0, .int .i64 0, .slice none 0 0] [], none⟩,
 ⟨none, .store 6 (.tmp 4) (.tmp 13), none⟩,
 ⟨some 5, .move (.const (.bool false)), none⟩])
 (.ret))
 (.skip)))
 (.seq (.ops [⟨some 14, .move (.tmp 6), none⟩,
 ⟨some 15, .nilCheck (.tmp 14), none⟩,
 ⟨some 16, .loadN 6 (.tmp 15), none⟩,
 ⟨some 7, .alloc [.int .i64 0, .int .i64 0, .int .i64 0, .int .i64 0, .int .i64 0, .slice none 0 0], none⟩,
 ⟨none, .store 6 (.tmp 7) (.tmp 16), none⟩])
 (.seq (.ops [⟨some 17, .fieldAddr 5 (.tmp 7), none⟩,
 ⟨some 18, .load1 (.tmp 17), none⟩,
 ⟨some 19, .call (F 153) [.tmp 18], none⟩,
 ⟨some 20, .fieldAddr 5 (.tmp 7), none⟩,
 ⟨none, .store 1 (.tmp 20) (.tmp 19), none⟩])
 (.seq (.ops [⟨some 21, .loadN 6 (.tmp 7), none⟩,
 ⟨none, .store 6 (.tmp 4) (.tmp 21), none⟩,
 ⟨some 5, .move (.const (.bool true)), none⟩])
 (.ret))))))⟩
/-- (*hurdle/smap.Map).List -/
def c_smap_Map_List (F : Nat → FuncId) (Ty : Nat → TypeId) : IFunc := ⟨8, [.tmp 4],
 .seq (.ops [⟨some 3, .box (.tmp 1), none⟩,
 ⟨some 4, .move (.const (.slice none 0 0)), none⟩])
 (.seq (.ops [⟨some 5, .move (.tmp 0), none⟩,
 ⟨some 6, .mkFunc (F 145) [] [.tmp 3], none⟩,
 ⟨some 7, .call (F 139) [.tmp 5, .tmp 6], none⟩,
 ⟨some 4, .move (.tmp 7), none⟩])
 (.ret))⟩
/-- (*hurdle/smap.Map).List$1 -/
def c_smap_Map_List_F1 (F : Nat → FuncId) (Ty : Nat → TypeId) : IFunc := ⟨8, [.tmp 3],
 .seq (.ops [⟨some 2, .box (.tmp 0), none⟩,
 ⟨some 3, .move (.const (.bool false)), none⟩])
 (.seq (.ops [⟨some 4, .fieldAddr 1 (.tmp 2), none⟩,
 ⟨some 5, .load1 (.tmp 4), none⟩,
 ⟨some 6, .load1 (.tmp 1), none⟩,
 ⟨some 7, .bin .eql (.tmp 5) (.tmp 6), none⟩,
 ⟨some 3, .move (.tmp 7), none⟩])
 (.ret))⟩
/-- (*hurdle/smap.Map).On -/
def c_smap_Map_On (F : Nat → FuncId) (Ty : Nat → TypeId) : IFunc := ⟨8, [.tmp 4],
 .seq (.ops [⟨some 3, .box (.tmp 1), none⟩,
 ⟨some 4, .move (.const (.slice none 0 0)), none⟩])
 (.seq (.ops [⟨some 5, .move (.tmp 0), none⟩,
 ⟨some 6, .mkFunc (F 147) [] [.tmp 3], none⟩,
 ⟨some 7, .call (F 139) [.tmp 5, .tmp 6], none⟩,
 ⟨some 4, .move (.tmp 7), none⟩])
 (.ret))⟩
/-- (*hurdle/smap.Map).On$1 -/
def c_smap_Map_On_F1 (F : Nat → FuncId) (Ty : Nat → TypeId) : IFunc := ⟨13, [.tmp 3],
 .seq (.ops [⟨some 2, .box (.tmp 0), none⟩,
 ⟨some 3, .move (.const (.bool false)), none⟩])
 (.seq (.ops [⟨some 4, .fieldAddr 1 (.tmp 2), none⟩,
 ⟨some 5, .load1 (.tmp 4), none⟩,
 ⟨some 6, .bin .neq (.tmp 5) (.const (.int .i64 3)), none⟩,
 ⟨some 7, .move (.tmp 6), none⟩,
 ⟨some 8, .fieldAddr 5 (.tmp 2), some (7, true)⟩,
 ⟨some 9, .load1 (.tmp 8), some (7, true)⟩,
 ⟨some 10, .load1 (.tmp 1), some (7, true)⟩,
 ⟨some 11, .call (F 154) [.tmp 9, .tmp 10], some (7, true)⟩,
 ⟨some 12, .pick (.tmp 7) (.tmp 11) (.const (.bool false)), none⟩,
 ⟨some 3, .move (.tmp 12), none⟩])
 (.ret))⟩
/-- slices.Clone[[]int,int] -/
def c_slices_Clone_int_int (F : Nat → FuncId) (Ty : Nat → TypeId) : IFunc := ⟨8, [.tmp 2],
 .seq (.ops [⟨some 2, .move (.const (.slice none 0 0)), none⟩])
 (.seq (.seq (.ops [⟨some 3, .move (.tmp 0), none⟩,
 ⟨some 4, .eqNil 1 false (.tmp 3), none⟩])
 (.cond (.tmp 4)
 (.seq (.ops [⟨some 2, .move (.const (.slice none 0 0)), none⟩])
 (.ret))
 (.skip)))
 (.seq (.ops [⟨some 5, .buildSlice 0 [] [], none⟩,
 ⟨some 6, .move (.tmp 0), none⟩,
 ⟨some 7, .append 1 8 (.tmp 5) (.tmp 6), none⟩,
 ⟨some 2, .move (.tmp 7), none⟩])
 (.ret)))⟩
/-- slices.Contains[[]int,int] -/
def c_slices_Contains_int_int (F : Nat → FuncId) (Ty : Nat → TypeId) : IFunc := ⟨9, [.tmp 4],
 .seq (.ops [⟨some 4, .move (.const (.bool false)), none⟩])
 (.seq (.ops [⟨some 5, .move (.tmp 0), none⟩,
 ⟨some 6, .move (.tmp 1), none⟩,
 ⟨some 7, .call (F 110) [.tmp 5, .tmp 6], none⟩,
 ⟨some 8, .bin .geq (.tmp 7) (.const (.int .i64 0)), none⟩,
 ⟨some 4, .move (.tmp 8), none⟩])
 (.ret))⟩
/-- A context has these functions. -/
structure HasSmap (c : Ctx) : Prop where
 smap_New : c.IP (c.F 132) = some (c_smap_New c.F c.Ty)
 smap_may : c.IP (c.F 133) = some (c_smap_may c.F c.Ty)
 smap_group : c.IP (c.F 134) = some (c_smap_group c.F c.Ty)
 smap_Map_Begin : c.IP (c.F 135) = some (c_smap_Map_Begin c.F c.Ty)
 smap_Map_at : c.IP (c.F 136) = some (c_smap_Map_at c.F c.Ty)
 smap_Map_Commit : c.IP (c.F 137) = some (c_smap_Map_Commit c.F c.Ty)
 smap_Map_Free : c.IP (c.F 138) = some (c_smap_Map_Free c.F c.Ty)
 smap_Map_which : c.IP (c.F 139) = some (c_smap_Map_which c.F c.Ty)
 smap_Map_Move : c.IP (c.F 142) = some (c_smap_Map_Move c.F c.Ty)
 smap_Map_Get : c.IP (c.F 143) = some (c_smap_Map_Get c.F c.Ty)
 smap_Map_List : c.IP (c.F 144) = some (c_smap_Map_List c.F c.Ty)
 smap_Map_List_F1 : c.IP (c.F 145) = some (c_smap_Map_List_F1 c.F c.Ty)
 smap_Map_On : c.IP (c.F 146) = some (c_smap_Map_On c.F c.Ty)
 smap_Map_On_F1 : c.IP (c.F 147) = some (c_smap_Map_On_F1 c.F c.Ty)
 slices_Clone_int_int : c.IP (c.F 153) = some (c_slices_Clone_int_int c.F c.Ty)
 slices_Index_int_int : c.IP (c.F 110) = some (c_slices_Index_int_int c.F c.Ty)
 slices_Contains_int_int : c.IP (c.F 154) = some (c_slices_Contains_int_int c.F c.Ty)

end Go.Proofs.YtndndcdblfejnaaGreatRI
namespace Go.Proofs.YtndndcdblfejnaaGreatRI
set_option linter.unusedSimpArgs false
set_option linter.unusedVariables false
open Go

/-- A stripe. -/
structure St where
  st : Int
  ow : Int
  ep : Int
  le : Int
  sv : List Int
def grpS (l : List Int) : Bool := decide (2 ≤ l.length) && (decide (l.length ≤ 8) && apart l)
def St.may (x : St) : Bool := decide (0 ≤ x.ow) && (decide (x.ow < 16) && (decide (1 ≤ x.ep) && (decide (0 ≤ x.le) && (decide (x.le ≤ 65536) && grpS x.sv))))
structure St.ok (x : St) : Prop where
  may : x.may = true
  s1 : 1 ≤ x.st
  s3 : x.st ≤ 3
  ep : x.ep < 9223372036854775808
theorem St.may_iff {x : St} : x.may = true ↔ 0 ≤ x.ow ∧ x.ow < 16 ∧ 1 ≤ x.ep ∧ 0 ≤ x.le ∧ x.le ≤ 65536 ∧ 2 ≤ x.sv.length ∧ x.sv.length ≤ 8 ∧ Apart x.sv := by
  simp only [St.may, grpS, Bool.and_eq_true, decide_eq_true_eq, apart_iff]
/-- The places of those that are so. -/
def wh (f : St → Bool) : Nat → List St → List Int
  | _, [] => []
  | n, x :: L => if f x then (n : Int) :: wh f (n + 1) L else wh f (n + 1) L
theorem wh_snoc (f : St → Bool) : ∀ (L : List St) (n : Nat) (x : St), wh f n (L ++ [x]) = wh f n L ++ (if f x then [((n + L.length : Nat) : Int)] else [])
  | [], n, x => by simp only [List.nil_append, wh, List.length_nil, Nat.add_zero]
  | y :: L, n, x => by
    simp only [List.cons_append, wh, List.length_cons]
    rw [wh_snoc f L (n + 1) x]
    have e : n + 1 + L.length = n + (L.length + 1) := by omega
    rw [e]
    split <;> simp
theorem wh_len (f : St → Bool) : ∀ (L : List St) (n : Nat), (wh f n L).length = L.countP f
  | [], _ => rfl
  | x :: L, n => by
    simp only [wh, List.countP_cons]
    split
    · rename_i h; simp [wh_len f L (n + 1), h]
    · rename_i h; simp [wh_len f L (n + 1), h]
def isOpen (x : St) : Bool := decide (x.st ≠ 3)
def opn (L : List St) : Nat := L.countP isOpen
theorem opn_le (L : List St) : opn L ≤ L.length := List.countP_le_length
theorem opn_free (L : List St) : (wh (fun x => decide (x.st = 3)) 0 L).length + opn L = L.length := by
  rw [wh_len]
  unfold opn
  induction L with
  | nil => rfl
  | cons x L ih =>
    simp only [List.countP_cons, isOpen, List.length_cons]
    by_cases h : x.st = 3
    · simp only [h, decide_true, if_true, ne_eq, not_true_eq_false, decide_false, Bool.false_eq_true, if_false]; omega
    · simp only [h, decide_false, ne_eq, not_false_eq_true, decide_true, if_true, Bool.false_eq_true, if_false]; omega

def getS (L : List St) (id : Int) : Option St := if id < 0 then none else L[id.toNat]?
theorem getS_some {L : List St} {id : Int} {x : St} (h : getS L id = some x) : 0 ≤ id ∧ id.toNat < L.length ∧ L[id.toNat]? = some x := by
  unfold getS at h
  split at h
  · cases h
  · rename_i hn
    exact ⟨by omega, (List.getElem?_eq_some_iff.1 h).1, h⟩
theorem getS_none {L : List St} {id : Int} (h : getS L id = none) : id < 0 ∨ (L.length : Int) ≤ id := by
  unfold getS at h
  split at h
  · left; assumption
  · right
    rw [List.getElem?_eq_none_iff] at h
    omega
def SBegin (L : List St) (ow ep le : Int) (sv : List Int) : List St × Int × Int :=
  if St.may ⟨1, ow, ep, le, sv⟩ = false then (L, 0, 1) else if 256 ≤ opn L ∨ 4096 ≤ L.length then (L, 0, 5) else (L ++ [⟨1, ow, ep, le, sv⟩], L.length, 0)
def SCommit (L : List St) (id ow : Int) : List St × Int :=
  match getS L id with
  | none => (L, 7)
  | some x => if x.st ≠ 1 ∨ x.ow ≠ ow then (L, 16) else (L.set id.toNat { x with st := 2 }, 0)
def SFree (L : List St) (id : Int) : List St × Int :=
  match getS L id with
  | none => (L, 7)
  | some x => if x.st = 3 then (L, 16) else (L.set id.toNat { x with st := 3 }, 0)
def SMove (L : List St) (id ix sr : Int) : List St × Int :=
  if ix < 0 ∨ (match getS L id with | none => (8 : Int) | some x => x.sv.length) ≤ ix ∨ sr < 0 ∨ 63 < sr then (L, 1) else
  match getS L id with
  | none => (L, 7)
  | some x => if 0 ≤ atI x.sv sr ∧ atI x.sv sr ≠ ix then (L, 6) else if x.st = 3 then (L, 16) else (L.set id.toNat { x with sv := x.sv.set ix.toNat sr }, 0)
def isOf (ow : Int) (x : St) : Bool := decide (x.ow = ow) && decide (x.st = 1)
def SDrop (L : List St) (ow : Int) : List St × List Int := (L.map fun x => if isOf ow x then { x with st := 3 } else x, wh (isOf ow) 0 L)

/-! ### rows -/
def slS (b n : Nat) : Value := .slice (some ⟨b, 0, none⟩) n (UNK + 1)
def rowSt (i : Nat) (x : St) (v : Value) : List Value := [.int .i64 i, .int .i64 x.st, .int .i64 x.ow, .int .i64 x.ep, .int .i64 x.le, v]
def stV (i : Nat) (x : St) (v : Value) : Value := .agg #[.int .i64 i, .int .i64 x.st, .int .i64 x.ow, .int .i64 x.ep, .int .i64 x.le, v]
def rowsB (bs : Nat → Nat) (L : List St) : List (List Value) := L.mapIdx fun i x => rowSt i x (slS (bs i) x.sv.length)
theorem rowsB_len (bs : Nat → Nat) (L : List St) : (rowsB bs L).length = L.length := by simp [rowsB]
theorem rowsB_six (bs : Nat → Nat) (L : List St) : ∀ r ∈ rowsB bs L, r.length = 6 := by
  intro r hr
  simp only [rowsB, List.mem_mapIdx] at hr
  obtain ⟨i, h, rfl⟩ := hr
  rfl
theorem rowsB_get {bs : Nat → Nat} {L : List St} {i : Nat} {x : St} (h : L[i]? = some x) : (rowsB bs L)[i]? = some (rowSt i x (slS (bs i) x.sv.length)) := by
  simp [rowsB, List.getElem?_mapIdx, h]
theorem rowsB_snoc (bs : Nat → Nat) (L : List St) (x : St) (b : Nat) : rowsB (fun i => if i = L.length then b else bs i) (L ++ [x]) = rowsB bs L ++ [rowSt L.length x (slS b x.sv.length)] := by
  apply List.ext_getElem?
  intro i
  simp only [rowsB, List.getElem?_mapIdx]
  by_cases h : i < L.length
  · rw [List.getElem?_append_left h, List.getElem?_append_left (by simpa using h), List.getElem?_mapIdx]
    have : ¬ i = L.length := by omega
    simp [this]
  · by_cases he : i = L.length
    · subst he
      rw [List.getElem?_append_right (Nat.le_refl _), List.getElem?_append_right (by simp)]
      simp
    · rw [List.getElem?_eq_none (by simp; omega), List.getElem?_eq_none (by simp; omega)]
      rfl
theorem flat_set {α : Type} {size : Nat} : ∀ (rows : List (List α)) (i j : Nat) (v : α), (∀ r ∈ rows, r.length = size) → j < size → (rows.flatten).set (i * size + j) v = (rows.modify i fun r => r.set j v).flatten
  | [], _, _, _, _, _ => by simp
  | r :: rows, 0, j, v, h, hj => by
    have hr := h r (by simp)
    simp only [List.flatten_cons, Nat.zero_mul, Nat.zero_add, List.modify_zero_cons]
    rw [List.set_append_left _ _ (by omega)]
  | r :: rows, i + 1, j, v, h, hj => by
    have hr := h r (by simp)
    simp only [List.flatten_cons, List.modify_succ_cons]
    rw [List.set_append_right _ _ (by rw [hr, Nat.add_mul]; omega), ← flat_set rows i j v (fun q hq => h q (by simp [hq])) hj]
    have e : (i + 1) * size + j - r.length = i * size + j := by rw [hr, Nat.add_mul]; omega
    rw [e]
theorem putAt_one {cs : List Value} {i : Nat} {v : Value} (h : i < cs.length) : putAt cs i [v] = cs.set i v := by
  rw [List.set_eq_take_append_cons_drop, if_pos h]
  simp [putAt]
theorem rowsB_set {bs : Nat → Nat} {L : List St} {i : Nat} {x y : St} (hx : L[i]? = some x) (hy : y.sv.length = x.sv.length) (j : Nat) (v : Value) (hr : (rowSt i x (slS (bs i) x.sv.length)).set j v = rowSt i y (slS (bs i) y.sv.length)) :
    (rowsB bs L).modify i (fun r => r.set j v) = rowsB bs (L.set i y) := by
  apply List.ext_getElem?
  intro k
  have hi := (List.getElem?_eq_some_iff.1 hx).1
  rw [List.getElem?_modify]
  simp only [rowsB, List.getElem?_mapIdx, List.getElem?_set]
  by_cases hk : i = k
  · subst hk
    rw [if_pos rfl, if_pos hi, hx]
    simp [hr]
  · rw [if_neg hk]
    simp [hk]
theorem all_rowSt (i : Nat) (x : St) (b n : Nat) : (rowSt i x (slS b n)).all one1 = true := rfl

/-- A new row behind all others. -/
theorem push_ok {H : IHeap} {q size bytes : Nat} {u : Value} {rows : List (List Value)} {new : List Value} (hu : (rows = [] ∧ u = .slice none 0 0) ∨ (rows ≠ [] ∧ u = .slice (some ⟨q, 0, none⟩) rows.length (UNK + size) ∧ H.get q = some (.cells rows.flatten false)))
    (hr : ∀ r ∈ rows, r.length = size) (h0 : 0 < size) (h1 : 0 < bytes) (hn : new.length = size) (hone : new.all one1 = true) (hb : (rows.length + 1) * bytes ≤ 140737488355328) (hl : rows.length + 1 ≤ 140737488355328) :
    ∃ H', appendI H size bytes u 1 new = some (.slice (some ⟨H.next, 0, none⟩) (rows.length + 1) (UNK + size), H') ∧ H'.get H.next = some (.cells (rows ++ [new]).flatten false) ∧ H'.next = H.next + 1 ∧ IHeap.upd [q] H H' ∧ (rows = [] → H.le H') := by
  rcases hu with ⟨rfl, rfl⟩ | ⟨hne, rfl, hg⟩
  · refine ⟨H.alloc (.cells new false), ?_, by simp [YV], rfl, (H.le_alloc _).upd _, fun _ => H.le_alloc _⟩
    simp only [List.length_nil, Nat.zero_add, Nat.one_mul] at hb hl
    simp only [appendI, Nat.zero_add, Nat.one_mul, List.length_nil]
    rw [if_pos ⟨hb, hl, h1, h0, hn⟩, if_neg (by omega)]
    simp
  · have hfl := flat_len rows size hr
    refine ⟨(H.set q .dead).alloc (.cells (rows.flatten ++ new) false), ?_, by simp [YV, YY], rfl, ((IHeap.upd_refl _ H).set (.inr (by simp)) _).alloc _, fun e => absurd e hne⟩
    have hf : firstI H size rows.length (.slice (some ⟨q, 0, none⟩) rows.length (UNK + size)) = some rows.flatten := by
      simp only [firstI, IHeap.loadL, hg]
      by_cases hz : rows.length * size = 0
      · rw [if_pos hz]
        rw [← hfl] at hz
        rw [List.length_eq_zero_iff.1 hz]
      · rw [if_neg hz, if_pos (by omega), List.drop_zero, List.take_of_length_le (by omega)]
    have e : (rows.length + 1) * size = rows.length * size + size := by rw [Nat.add_mul]; omega
    simp only [appendI]
    rw [if_pos ⟨hb, hl, h1, h0, by omega⟩, if_neg (by omega), if_neg (by omega)]
    simp only [hf]
    rw [if_neg (by omega)]
    simp only [hg, hone, if_true]
    rw [if_neg (by omega), if_pos (by omega)]

structure IsS (H : IHeap) (p q : Nat) (bs : Nat → Nat) (L : List St) : Prop where
  lt : p < H.next
  ltq : q < H.next
  rep : ∃ u, H.get p = some (.cells [u, .int .i64 (opn L)] false) ∧ ((L = [] ∧ u = .slice none 0 0) ∨ (L ≠ [] ∧ p ≠ q ∧ u = .slice (some ⟨q, 0, none⟩) L.length (UNK + 6) ∧ H.get q = some (.cells (rowsB bs L).flatten false)))
  ok : ∀ x ∈ L, x.ok
  len : L.length ≤ 4096
  bl : ∀ i x, L[i]? = some x → bs i < H.next ∧ H.get (bs i) = some (.cells (x.sv.map iV) false) ∧ bs i ≠ p ∧ bs i ≠ q
  inj : ∀ i j, i < L.length → j < L.length → bs i = bs j → i = j
theorem IsS.upd {H H' : IHeap} {S : List Nat} {p q : Nat} {bs : Nat → Nat} {L : List St} (h : IsS H p q bs L) (hu : IHeap.upd S H H') (hp : p ∉ S) (hq : q ∉ S) (hb : ∀ i, i < L.length → bs i ∉ S) : IsS H' p q bs L := by
  obtain ⟨u, g1, g2⟩ := h.rep
  refine ⟨Nat.lt_of_lt_of_le h.lt hu.next, Nat.lt_of_lt_of_le h.ltq hu.next, ⟨u, (hu.get p h.lt hp).trans g1, g2.imp id fun g => ⟨g.1, g.2.1, g.2.2.1, (hu.get q h.ltq hq).trans g.2.2.2⟩⟩, h.ok, h.len, fun i x hx => ?_, h.inj⟩
  obtain ⟨b1, b2, b3⟩ := h.bl i x hx
  exact ⟨Nat.lt_of_lt_of_le b1 hu.next, (hu.get _ b1 (hb i (List.getElem?_eq_some_iff.1 hx).1)).trans b2, b3⟩
theorem IsS.le {H H' : IHeap} {p q : Nat} {bs : Nat → Nat} {L : List St} (h : IsS H p q bs L) (hu : H.le H') : IsS H' p q bs L := h.upd (hu.upd []) (by simp) (by simp) (by simp)
theorem IsS.sl {H : IHeap} {p q : Nat} {bs : Nat → Nat} {L : List St} (h : IsS H p q bs L) {i : Nat} {x : St} (hx : L[i]? = some x) : SlW H 1 (slS (bs i) x.sv.length) (x.sv.map rowI) := by
  obtain ⟨b1, b2, _⟩ := h.bl i x hx
  exact ⟨slr_ints b1 b2 (by rw [List.drop_zero, List.take_of_length_le (by simp)]) (by simp), _, _, by rw [List.length_map]; rfl, .inr ⟨_, _, rfl⟩, .inr ⟨rfl, by simp⟩⟩
theorem IsS.at {H : IHeap} {p q : Nat} {bs : Nat → Nat} {L : List St} (h : IsS H p q bs L) {i : Nat} {x : St} (hx : L[i]? = some x) :
    H.get p = some (.cells [.slice (some ⟨q, 0, none⟩) L.length (UNK + 6), .int .i64 (opn L)] false) ∧ H.get q = some (.cells (rowsB bs L).flatten false) ∧ ((rowsB bs L).flatten.drop (i * 6)).take 6 = rowSt i x (slS (bs i) x.sv.length) ∧ i * 6 + 6 ≤ (rowsB bs L).flatten.length ∧ q < H.next ∧ p ≠ q := by
  obtain ⟨u, g1, g2⟩ := h.rep
  have hi := (List.getElem?_eq_some_iff.1 hx).1
  rcases g2 with ⟨e, _⟩ | ⟨g0, g00, rfl, g2⟩
  · subst e; simp at hi
  · exact ⟨g1, g2, (flat_row _ 6 i _ (rowsB_six bs L) (rowsB_get hx)).1, (flat_row _ 6 i _ (rowsB_six bs L) (rowsB_get hx)).2, h.ltq, g00⟩
theorem IsS.u {H : IHeap} {p q : Nat} {bs : Nat → Nat} {L : List St} (h : IsS H p q bs L) : ∃ a cap, H.get p = some (.cells [.slice a L.length cap, .int .i64 (opn L)] false) := by
  obtain ⟨u, g1, g2⟩ := h.rep
  rcases g2 with ⟨rfl, rfl⟩ | ⟨_, _, rfl, _⟩
  · exact ⟨_, _, g1⟩
  · exact ⟨_, _, g1⟩
end Go.Proofs.YtndndcdblfejnaaGreatRI
namespace Go.Proofs.YtndndcdblfejnaaGreatRI
attribute [local simp] J0 J1 J2 J3 J4 J5 J6 J7 J8 J9 Ja Jb Jc Jd Je Jf Jg Jh Ji Jj Jk Jl Jm Jn Jo Jp Jq Jr Js Jt Ju Jv Jw Jx Jy Jz JA JB JC JD JE JF JG JH JI JJ JK JL JM JN JO JP JQ JR JS stillI IOp.kind JT JU JV JW JX JY JZ Y0 Y1 Y2 Y3 Y4 Y5 Y6 Y7 Y8 Y9 Ya Yb Yc Yd Ye Yf Yg Yh Yi Yj Yk Yl Ym Yn Yo Yp Yq ial Yr Ys Yt Yu Yv Yw Yx Yy ires iresL ires1 Yz YA YB YC YD YE bin2 YF YG YH YI YJ YK YL YM YN YO YP YQ YR YS YT YU un1 shOk eqL eq1 fillL putAt IHeap.load1 IHeap.loadL IHeap.storeL YV YW YX YY YZ B0 B1 B2 B3 B4 B5 B6 B7 B8 B9 Ba Bb Bc Bd Be Bf Bg Bh Bi Bj Bk Bl Bm Bn Bo Bp
set_option linter.unusedSimpArgs false
set_option linter.unusedVariables false
open Go

section
variable (c : Ctx) (hc : HasSmap c) {H : IHeap} {K : Value → IHeap → Prop}
include hc

theorem Index_okS {l : List Int} {u : Value} {n : Int} (hs : SlW H 1 u (l.map rowI)) (hl : l.length ≤ 1000000000) (hK : K (.int .i64 (atI l n)) H) : c.C (c.F n_slices_Index_int_int) [u, .int .i64 n] H K := by
  refine c.enter hc.slices_Index_int_int rfl ?_
  have hs' := hs.1
  obtain ⟨a, cap, rfl⟩ := hs.len
  simp only [List.length_map] at hs' ⊢
  simp -implicitDefEqProofs [c_slices_Index_int_int]
  refine loop_nat c.mono (fun k T H' => ∃ i : Nat, ∃ hi : i ≤ l.length, k = l.length - i ∧ T 0 = .slice a l.length cap ∧ T 1 = .int .i64 n ∧ T 7 = .int .i64 l.length ∧ T 8 = .int .i64 i ∧ H' = H ∧ ∀ j (hj : j < i), l[j]'(by omega) ≠ n) l.length ?_ ?_
  · refine ⟨0, by omega, rfl, ?_⟩
    simp -implicitDefEqProofs []
  · rintro k T H' ⟨i, hi, rfl, t0, t1, t7, t8, rfl, hf⟩
    by_cases hil : i < l.length
    · have hil' : (i : Int) < (l.length : Int) := by omega
      obtain ⟨b, o, cp, cs, ro, e1, hb, hget, hat⟩ := hs'.at1 (i := i) (x := .int .i64 l[i]) (by simp [hil, rowI])
      simp only [Value.slice.injEq] at e1
      obtain ⟨rfl, -, rfl⟩ := e1
      have hw : IntKind.i64.wrap ((i : Int) + 1) = (i : Int) + 1 := wrap64 (by omega) (by omega)
      by_cases hx : l[i] = n
      · have hx' : n = l[i] := hx.symm
        rw [atI_first hil hx hf] at hK
        simp -implicitDefEqProofs [t0, t1, t7, t8, hil, hil', hget, hat, hx']
        exact hK
      · have hx' : ¬ n = l[i] := fun h => hx h.symm
        simp -implicitDefEqProofs [t0, t1, t7, t8, hil, hil', hget, hat, hx', hw]
        exact ⟨l.length - (i + 1), by omega, i + 1, rfl, by simp, by omega, atI_step hil hf hx⟩
    · have hil' : ¬ (i : Int) < (l.length : Int) := by omega
      simp -implicitDefEqProofs [t0, t1, t7, t8, hil, hil']
      rw [atI_all fun j hj => hf j (by omega)] at hK
      exact hK

theorem Contains_ok {l : List Int} {u : Value} {n : Int} (hs : SlW H 1 u (l.map rowI)) (hl : l.length ≤ 1000000000) (hK : K (.bool (decide (n ∈ l))) H) : c.C (c.F n_slices_Contains_int_int) [u, .int .i64 n] H K := by
  refine c.enter hc.slices_Contains_int_int rfl ?_
  have hs2 := hs
  obtain ⟨a, cap, rfl⟩ := hs.len
  simp only [List.length_map] at hs2 ⊢
  simp -implicitDefEqProofs [c_slices_Contains_int_int]
  refine call_of (Index_okS c hc hs2 hl ?_)
  have e : decide (n ∈ l) = decide (0 ≤ atI l n) := by
    have := atI_neg (l := l) (n := n)
    by_cases hm : n ∈ l
    · rw [decide_eq_true hm, decide_eq_true (by have h1 : ¬ atI l n < 0 := fun hx => this.1 hx hm; omega)]
    · rw [decide_eq_false hm, decide_eq_false (by have h1 := this.2 hm; omega)]
  rw [e] at hK
  simp -implicitDefEqProofs []
  exact hK

theorem grpS_ok {l : List Int} {u : Value} (hs : SlW H 1 u (l.map rowI)) (hl : l.length ≤ 1000000000) (hK : K (.bool (grpS l)) H) : c.C (c.F n_smap_group) [u] H K := by
  refine c.enter hc.smap_group rfl ?_
  have hs1 := hs.1
  have hs2 := hs
  obtain ⟨a, cap, rfl⟩ := hs.len
  simp only [List.length_map] at hs1 hs2 ⊢
  by_cases h2 : 2 ≤ l.length
  · have h2' : ¬ (l.length : Int) < 2 := by omega
    by_cases h8 : l.length ≤ 8
    · have h8' : ¬ (8 : Int) < (l.length : Int) := by omega
      have hgr : grpS l = apart l := by simp [grpS, h2, h8]
      rw [hgr] at hK
      simp -implicitDefEqProofs [c_smap_group, h2', h8']
      refine loop_nat c.mono (fun k T H' => ∃ i : Nat, i ≤ l.length ∧ k = l.length - i ∧ T 0 = .slice a l.length cap ∧ T 13 = .slice a l.length cap ∧ T 14 = .int .i64 l.length ∧ T 15 = .int .i64 i ∧ H' = H ∧ Apart (l.take i)) l.length ?_ ?_
      · refine ⟨0, by omega, rfl, ?_⟩
        simp -implicitDefEqProofs []
        simp [Apart]
      · rintro k T H' ⟨i, hi, rfl, t0, t13, t14, t15, rfl, hap⟩
        by_cases hil : i < l.length
        · have hil' : (i : Int) < (l.length : Int) := by omega
          obtain ⟨b, o, cp, cs, ro, e1, hb, hget, hat⟩ := hs1.at1 (i := i) (x := .int .i64 l[i]) (by simp [hil, rowI])
          simp only [Value.slice.injEq] at e1
          obtain ⟨rfl, -, rfl⟩ := e1
          have hw : IntKind.i64.wrap ((i : Int) + 1) = (i : Int) + 1 := wrap64 (by omega) (by omega)
          have htk : l.take (i + 1) = l.take i ++ [l[i]] := by rw [List.take_add_one, List.getElem?_eq_getElem hil]; rfl
          obtain ⟨x, hx⟩ : ∃ x, x = l[i] := ⟨_, rfl⟩
          rw [← hx] at hat htk
          have hbad : ¬ (0 ≤ x ∧ x < 64 ∧ x ∉ l.take i) → apart l = false := by
            intro hb
            rw [Bool.eq_false_iff]
            intro ht
            have h1 := (apart_iff _).1 ht
            have h3 : l = l.take (i + 1) ++ l.drop (i + 1) := (List.take_append_drop _ _).symm
            rw [h3] at h1
            have h4 := h1.left
            rw [htk, apart_snoc] at h4
            exact hb h4.2
          by_cases hx0 : x < 0
          · rw [hbad (by omega)] at hK
            simp -implicitDefEqProofs [t0, t13, t14, t15, hil, hil', hget, hat, hx0]
            exact hK
          · by_cases hx1 : 64 ≤ x
            · rw [hbad (by omega)] at hK
              simp -implicitDefEqProofs [t0, t13, t14, t15, hil, hil', hget, hat, hx0, hx1]
              exact hK
            · obtain ⟨v', hcut, hw'⟩ := hs2.cut (i := 0) (j := i) (by omega) (by omega) (by simp; omega)
              have hrows : ((l.map rowI).drop 0).take (i - 0) = (l.take i).map rowI := by simp [List.map_take]
              rw [hrows] at hw'
              simp -implicitDefEqProofs [t0, t13, t14, t15, hil, hil', hget, hat, hx0, hx1, boundsI, natI, hcut]
              refine call_of (Contains_ok c hc hw' (by simp; omega) ?_)
              by_cases hm : x ∈ l.take i
              · rw [hbad (fun h => h.2.2 hm)] at hK
                simp -implicitDefEqProofs [hm]
                exact hK
              · simp -implicitDefEqProofs [hm, t0, t13, t14, t15, hw]
                refine ⟨l.length - (i + 1), by omega, i + 1, by omega, rfl, by simp, ?_⟩
                rw [htk, apart_snoc]
                exact ⟨hap, by omega, by omega, hm⟩
        · rw [List.take_of_length_le (by omega)] at hap
          have hil' : ¬ (i : Int) < (l.length : Int) := by omega
          simp -implicitDefEqProofs [t0, t13, t14, t15, hil, hil']
          rw [(apart_iff _).2 hap] at hK
          exact hK
    · have h8' : (8 : Int) < (l.length : Int) := by omega
      simp -implicitDefEqProofs [c_smap_group, h2', h8']
      simpa [grpS, h8] using hK
  · have h2' : (l.length : Int) < 2 := by omega
    simp -implicitDefEqProofs [c_smap_group, h2']
    simpa [grpS, h2] using hK

theorem may_okS {i : Int} {x : St} {v : Value} (hs : SlW H 1 v (x.sv.map rowI)) (hl : x.sv.length ≤ 1000000000) (hK : ∀ H', H.le H' → K (.bool x.may) H') : c.C (c.F n_smap_may) [.agg #[.int .i64 i, .int .i64 x.st, .int .i64 x.ow, .int .i64 x.ep, .int .i64 x.le, v]] H K := by
  refine c.enter hc.smap_may rfl ?_
  have hs2 := hs
  obtain ⟨a, cap, rfl⟩ := hs.len
  simp only [List.length_map] at hs2 ⊢
  unfold St.may at hK
  have kA : ∀ y, H.le (H.alloc y) := fun y => H.le_alloc y
  by_cases h1 : 0 ≤ x.ow
  · by_cases h2 : x.ow < 16
    · by_cases h3 : 1 ≤ x.ep
      · by_cases h4 : 0 ≤ x.le
        · by_cases h5 : x.le ≤ 65536
          · simp -implicitDefEqProofs [c_smap_may, h1, h2, h3, h4, h5]
            refine call_of (grpS_ok c hc (hs2.le (kA _)) hl ?_)
            simp -implicitDefEqProofs []
            simpa [h1, h2, h3, h4, h5] using hK _ (kA _)
          · simp -implicitDefEqProofs [c_smap_may, h1, h2, h3, h4, h5]
            simpa [h1, h2, h3, h4, h5] using hK _ (kA _)
        · simp -implicitDefEqProofs [c_smap_may, h1, h2, h3, h4]
          simpa [h1, h2, h3, h4] using hK _ (kA _)
      · simp -implicitDefEqProofs [c_smap_may, h1, h2, h3]
        simpa [h1, h2, h3] using hK _ (kA _)
    · simp -implicitDefEqProofs [c_smap_may, h1, h2]
      simpa [h1, h2] using hK _ (kA _)
  · simp -implicitDefEqProofs [c_smap_may, h1]
    simpa [h1] using hK _ (kA _)

theorem at_okS {p q : Nat} {bs : Nat → Nat} {L : List St} {id : Int} (h : IsS H p q bs L) (h0 : getS L id = none → K (.pointer none) H) (h1 : ∀ x, getS L id = some x → K (.pointer (some ⟨q, id.toNat * 6, none⟩)) H) :
    c.C (c.F n_smap_Map_at) [.pointer (some ⟨p, 0, none⟩), .int .i64 id] H K := by
  refine c.enter hc.smap_Map_at rfl ?_
  have hlen := h.len
  cases hg : getS L id with
  | none =>
    have h0' := h0 hg
    obtain ⟨a, cap, g1⟩ := h.u
    rcases getS_none hg with hn | hn
    · simp -implicitDefEqProofs [c_smap_Map_at, nilOf, hn, g1]
      exact h0'
    · by_cases hn0 : id < 0
      · simp -implicitDefEqProofs [c_smap_Map_at, nilOf, hn0, g1]
        exact h0'
      · simp -implicitDefEqProofs [c_smap_Map_at, nilOf, hn0, hn, g1]
        exact h0'
  | some x =>
    obtain ⟨i0, i1, hx⟩ := getS_some hg
    obtain ⟨g1, g2, _, _⟩ := h.at hx
    have hn0 : ¬ id < 0 := by omega
    have hn1 : ¬ (L.length : Int) ≤ id := by omega
    have hn2 : id < (L.length : Int) := by omega
    simp -implicitDefEqProofs [c_smap_Map_at, nilOf, hn0, hn1, hn2, g1, i0, i1, boundsI, natI]
    exact h1 x hg

theorem Clone_okW {l : List Int} {u : Value} (hs : SlW H 1 u (l.map rowI)) (hl : l.length * 8 ≤ 140737488355328)
    (hK : ∀ v' H', H.le H' → SlW H' 1 v' (l.map rowI) → (∀ S : List Nat, (∀ b ∈ S, b < H.next) → Far H' v' S) → (l ≠ [] → ∃ b, H.next ≤ b ∧ b < H'.next ∧ v' = slS b l.length ∧ H'.get b = some (.cells (l.map iV) false)) → K v' H') :
    c.C (c.F n_slices_Clone_int_int) [u] H K := by
  refine c.enter hc.slices_Clone_int_int rfl ?_
  have hs2 := hs
  obtain ⟨a, cap, rfl⟩ := hs.len
  simp only [List.length_map] at hs2 ⊢
  have hf := hs2.first (by omega)
  rw [flat_rowI, List.length_map] at hf
  cases a with
  | none =>
    have hl0 : l = [] := by
      obtain ⟨⟨a', cap', e, h2⟩, _⟩ := hs2
      refine Classical.byContradiction fun hne => ?_
      obtain ⟨b, o, cs, ro, e2, _⟩ := h2 (by simpa using hne)
      rw [e2] at e; simp at e
    subst hl0
    simp -implicitDefEqProofs [c_slices_Clone_int_int, nilOf]
    exact hK _ _ (IHeap.le_refl _) (SlW.nil H 1) (fun S hS b o n c e => by simp at e) (fun h => absurd rfl h)
  | some ad =>
    have hb : ad.spot = none := by
      obtain ⟨_, a'', cap'', e, ha, _⟩ := hs2
      simp only [Value.slice.injEq] at e
      obtain ⟨rfl, -, rfl⟩ := e
      rcases ha with h | ⟨b, o, h⟩
      · simp at h
      · simp only [Option.some.injEq] at h; rw [h]
    obtain ⟨b, o, sp⟩ := ad
    simp only at hb
    subst hb
    have kA := H.le_alloc (.cells [] false)
    have hf2 : firstI (H.alloc (.cells [] false)) 1 l.length (.slice (some ⟨b, o, none⟩) l.length cap) = some (l.map iV) := by
      have := (hs2.le kA).first (by omega)
      rw [flat_rowI, List.length_map] at this
      exact this
    have tg : Tight (H.alloc (.cells [] false)) 1 (.slice (some ⟨H.next, 0, none⟩) 0 0) [] := ⟨by simp, H.next, 0, [], false, by simp [YX], by unfold UNK; simp, rfl, by rw [YV, if_pos rfl], by simp, by simp⟩
    by_cases hl0 : l = []
    · subst hl0
      have e0 := appendI_zero (bytes := 8) (B := H.next) (.inr (.inl tg)) (by omega) (by omega) (by simp) (by simp)
      simp only [List.length_nil, List.map_nil] at hf2 e0
      simp -implicitDefEqProofs [c_slices_Clone_int_int, nilOf, lenOfI, hf2, e0]
      exact hK _ _ kA tg.slw (fun S hS b o n c e => by
        simp only [Value.slice.injEq, Option.some.injEq, Addr.mk.injEq] at e
        obtain ⟨⟨rfl, _⟩, _⟩ := e
        exact ⟨fun hm => by have := hS _ hm; omega, by simp [YX]⟩) (fun h => absurd rfl h)
    · obtain ⟨v', H', e1, e2, e3⟩ := Buf.append (bytes := 8) (B := H.next) (new := l.map rowI) (.inr (.inl tg)) (by simp [YX]) (by omega) (by omega) (by simp; omega) (by simp; omega) (fun r hr => by obtain ⟨x, _, rfl⟩ := List.mem_map.1 hr; rfl) (all_rowI l) (by simpa using hl0)
      rw [flat_rowI, List.length_map] at e1
      rw [List.nil_append] at e2
      have k3 : H.le H' := (kA.keep (Nat.le_refl _) |>.trans e3).le (Nat.le_refl _)
      simp -implicitDefEqProofs [c_slices_Clone_int_int, nilOf, lenOfI, hf2, e1]
      refine hK _ _ k3 e2.slw (fun S hS => Grow.far (.inr e2) (Nat.le_refl _) hS) fun _ => ?_
      obtain ⟨_, blk, q1, q2, rfl, q4⟩ := e2
      exact ⟨blk, q1, q2, by rw [List.length_map]; rfl, by rw [q4, flat_rowI]⟩

theorem Clone_ok {l : List Int} {u : Value} (hs : SlW H 1 u (l.map rowI)) (hl : l.length ≤ 1000000)
    (hK : ∀ v' H', H.le H' → SlW H' 1 v' (l.map rowI) → (∀ S : List Nat, (∀ b ∈ S, b < H.next) → Far H' v' S) → (l ≠ [] → ∃ b, H.next ≤ b ∧ b < H'.next ∧ v' = slS b l.length ∧ H'.get b = some (.cells (l.map iV) false)) → K v' H') :
    c.C (c.F n_slices_Clone_int_int) [u] H K := Clone_okW c hc hs (by omega) hK

end
end Go.Proofs.YtndndcdblfejnaaGreatRI
namespace Go.Proofs.YtndndcdblfejnaaGreatRI
attribute [local simp] J0 J1 J2 J3 J4 J5 J6 J7 J8 J9 Ja Jb Jc Jd Je Jf Jg Jh Ji Jj Jk Jl Jm Jn Jo Jp Jq Jr Js Jt Ju Jv Jw Jx Jy Jz JA JB JC JD JE JF JG JH JI JJ JK JL JM JN JO JP JQ JR JS stillI IOp.kind JT JU JV JW JX JY JZ Y0 Y1 Y2 Y3 Y4 Y5 Y6 Y7 Y8 Y9 Ya Yb Yc Yd Ye Yf Yg Yh Yi Yj Yk Yl Ym Yn Yo Yp Yq ial Yr Ys Yt Yu Yv Yw Yx Yy ires iresL ires1 Yz YA YB YC YD YE bin2 YF YG YH YI YJ YK YL YM YN YO YP YQ YR YS YT YU un1 shOk eqL eq1 fillL putAt IHeap.load1 IHeap.loadL IHeap.storeL YV YW YX YY YZ B0 B1 B2 B3 B4 B5 B6 B7 B8 B9 Ba Bb Bc Bd Be Bf Bg Bh Bi Bj Bk Bl Bm Bn Bo Bp
set_option linter.unusedSimpArgs false
set_option linter.unusedVariables false
open Go

theorem row_get {cs r : List Value} {p n : Nat} (h : (cs.drop p).take n = r) (j : Nat) (hj : j < n) : cs[p + j]? = r[j]? := by
  rw [← h, List.getElem?_take, if_pos hj, List.getElem?_drop]
theorem opn_set {L : List St} {i : Nat} {x y : St} (hx : L[i]? = some x) : opn (L.set i y) + (if isOpen x then 1 else 0) = opn L + (if isOpen y then 1 else 0) := by
  obtain ⟨hi, e⟩ := List.getElem?_eq_some_iff.1 hx
  have hL : L = L.take i ++ x :: L.drop (i + 1) := by rw [← e, ← List.drop_eq_getElem_cons hi, List.take_append_drop]
  rw [List.set_eq_take_append_cons_drop, if_pos hi]
  unfold opn
  conv => rhs; rw [hL]
  simp only [List.countP_append, List.countP_cons]
  omega
/-- The blocks of stripes. -/
def foot (p q : Nat) (bs : Nat → Nat) (L : List St) : List Nat := p :: q :: (List.range L.length).map bs
theorem mem_foot {p q b : Nat} {bs : Nat → Nat} {L : List St} : b ∈ foot p q bs L ↔ b = p ∨ b = q ∨ ∃ i, i < L.length ∧ bs i = b := by
  simp only [foot, List.mem_cons, List.mem_map, List.mem_range]
theorem p_foot (p q : Nat) (bs : Nat → Nat) (L : List St) : p ∈ foot p q bs L := by simp [foot]
theorem q_foot (p q : Nat) (bs : Nat → Nat) (L : List St) : q ∈ foot p q bs L := by simp [foot]
theorem b_foot {p q : Nat} {bs : Nat → Nat} {L : List St} {i : Nat} (h : i < L.length) : bs i ∈ foot p q bs L := by rw [mem_foot]; exact .inr (.inr ⟨i, h, rfl⟩)
theorem foot_lt {H : IHeap} {p q : Nat} {bs : Nat → Nat} {L : List St} (h : IsS H p q bs L) : ∀ b ∈ foot p q bs L, b < H.next := fun b hb => by
  rw [mem_foot] at hb
  rcases hb with rfl | rfl | ⟨i, hi, rfl⟩
  · exact h.lt
  · exact h.ltq
  · exact (h.bl i L[i] (List.getElem?_eq_getElem hi)).1
theorem foot_set (p q : Nat) (bs : Nat → Nat) (L : List St) (i : Nat) (y : St) : foot p q bs (L.set i y) = foot p q bs L := by simp [foot]

theorem put_row {bs : Nat → Nat} {L : List St} {i j : Nat} {x y : St} {v : Value} (hx : L[i]? = some x) (hy : y.sv.length = x.sv.length) (hj : j < 6) (hr : (rowSt i x (slS (bs i) x.sv.length)).set j v = rowSt i y (slS (bs i) y.sv.length)) :
    List.take (i * 6 + j) (rowsB bs L).flatten ++ v :: List.drop (i * 6 + j + 1) (rowsB bs L).flatten = (rowsB bs (L.set i y)).flatten := by
  have hl := (flat_row _ 6 i _ (rowsB_six bs L) (rowsB_get hx)).2
  rw [← rowsB_set hx hy j v hr, ← flat_set _ i j v (rowsB_six bs L) hj, List.set_eq_take_append_cons_drop, if_pos (by omega)]

theorem IsS.mod {H H' : IHeap} {p q : Nat} {bs : Nat → Nat} {L : List St} {i : Nat} {x y : St} (h : IsS H p q bs L) (hx : L[i]? = some x) (hsv : y.sv = x.sv) (hy : y.ok) (hn : H'.next = H.next)
    (hp : H'.get p = some (.cells [.slice (some ⟨q, 0, none⟩) L.length (UNK + 6), .int .i64 (opn (L.set i y))] false)) (hq : H'.get q = some (.cells (rowsB bs (L.set i y)).flatten false)) (hb : ∀ b, b ≠ p → b ≠ q → H'.get b = H.get b) : IsS H' p q bs (L.set i y) := by
  obtain ⟨_, _, _, _, q1, q2⟩ := h.at hx
  refine ⟨by rw [hn]; exact h.lt, by rw [hn]; exact h.ltq, ⟨_, hp, .inr ⟨fun e => by have := congrArg List.length e; rw [List.length_set] at this; have h1 := (List.getElem?_eq_some_iff.1 hx).1; simp only [List.length_nil] at this; omega, q2, by rw [List.length_set], hq⟩⟩, fun z hz => ?_, by rw [List.length_set]; exact h.len, fun k z hz => ?_, fun a b ha hb => h.inj a b (by simpa using ha) (by simpa using hb)⟩
  · rcases List.mem_or_eq_of_mem_set hz with h1 | rfl
    · exact h.ok z h1
    · exact hy
  · by_cases hk : k = i
    · subst hk
      have : z = y := by
        rw [List.getElem?_set, if_pos rfl, if_pos (List.getElem?_eq_some_iff.1 hx).1] at hz
        injection hz with hz; exact hz.symm
      subst this
      obtain ⟨b1, b2, b3, b4⟩ := h.bl k x hx
      rw [hsv, hn, hb _ b3 b4]
      exact ⟨b1, b2, b3, b4⟩
    · rw [List.getElem?_set, if_neg (Ne.symm hk)] at hz
      obtain ⟨b1, b2, b3, b4⟩ := h.bl k z hz
      rw [hn, hb _ b3 b4]
      exact ⟨b1, b2, b3, b4⟩

section
variable (c : Ctx) (hc : HasSmap c) {H : IHeap} {K : Value → IHeap → Prop}
include hc

theorem SNew_ok (hK : ∀ H', H.le H' → IsS H' H.next H.next (fun _ => 0) [] → K (.pointer (some ⟨H.next, 0, none⟩)) H') : c.C (c.F n_smap_New) [] H K := by
  refine c.enter hc.smap_New rfl ?_
  simp -implicitDefEqProofs [c_smap_New]
  exact hK _ (H.le_alloc _) ⟨by simp [YX], by simp [YX], ⟨_, by rw [YV, if_pos rfl]; rfl, .inl ⟨rfl, rfl⟩⟩, by simp, by simp, by simp, by simp⟩

theorem SCommit_ok {p q : Nat} {bs : Nat → Nat} {L : List St} {id ow : Int} (h : IsS H p q bs L) (hK : ∀ H', IHeap.upd (foot p q bs L) H H' → H'.next = H.next → IsS H' p q bs (SCommit L id ow).1 → foot p q bs (SCommit L id ow).1 = foot p q bs L → K (.int .i64 (SCommit L id ow).2) H') :
    c.C (c.F n_smap_Map_Commit) [.pointer (some ⟨p, 0, none⟩), .int .i64 id, .int .i64 ow] H K := by
  refine c.enter hc.smap_Map_Commit rfl ?_
  simp -implicitDefEqProofs [c_smap_Map_Commit, nilOf]
  unfold SCommit at hK
  refine call_of (at_okS c hc h (fun hg => ?_) fun x hg => ?_)
  · rw [hg] at hK
    simp -implicitDefEqProofs [nilOf]
    exact hK _ (IHeap.upd_refl _ _) rfl h rfl
  · rw [hg] at hK
    simp only at hK
    obtain ⟨i0, i1, hx⟩ := getS_some hg
    obtain ⟨g1, g2, hrow, hbd, hq, hpq⟩ := h.at hx
    have r1 := row_get hrow 1 (by omega)
    have r2 := row_get hrow 2 (by omega)
    simp only [rowSt, List.getElem?_cons_succ, List.getElem?_cons_zero] at r1 r2
    by_cases hs : x.st = 1
    · by_cases hw : x.ow = ow
      · subst hw
        rw [if_neg (by simp [hs])] at hK
        have ho := opn_set (y := { x with st := 2 }) hx
        have hbd1 : id.toNat * 6 + 1 + 1 ≤ (rowsB bs L).flatten.length := by omega
        rw [List.length_flatten] at hbd1
        have hput := put_row (bs := bs) (j := 1) (v := .int .i64 2) (y := { x with st := 2 }) hx rfl (by omega) rfl
        simp -implicitDefEqProofs [nilOf, g2, r1, r2, hs, hbd1, hput]
        have hxo := h.ok x (List.mem_of_getElem? hx)
        have hio : isOpen x = isOpen { x with st := 2 } := by simp [isOpen, hs]
        rw [hio] at ho
        have ho2 : opn (L.set id.toNat { x with st := 2 }) = opn L := by omega
        refine hK _ ((IHeap.upd_refl _ _).set (.inr (q_foot _ _ _ _)) _) rfl ?_ (foot_set ..)
        exact h.mod hx rfl ⟨hxo.may, by simp, by simp, hxo.ep⟩ rfl (by rw [YW, if_neg hpq, ho2]; exact g1) (by rw [YW, if_pos rfl]) (fun b h1 h2 => by rw [YW, if_neg h2])
      · rw [if_pos (by simp [hw])] at hK
        simp -implicitDefEqProofs [nilOf, g2, r1, r2, hs, hw]
        exact hK _ (IHeap.upd_refl _ _) rfl h rfl
    · rw [if_pos (by simp [hs])] at hK
      simp -implicitDefEqProofs [nilOf, g2, r1, r2, hs]
      exact hK _ (IHeap.upd_refl _ _) rfl h rfl

theorem SFree_ok {p q : Nat} {bs : Nat → Nat} {L : List St} {id : Int} (h : IsS H p q bs L) (hK : ∀ H', IHeap.upd (foot p q bs L) H H' → H'.next = H.next → IsS H' p q bs (SFree L id).1 → foot p q bs (SFree L id).1 = foot p q bs L → K (.int .i64 (SFree L id).2) H') :
    c.C (c.F n_smap_Map_Free) [.pointer (some ⟨p, 0, none⟩), .int .i64 id] H K := by
  refine c.enter hc.smap_Map_Free rfl ?_
  simp -implicitDefEqProofs [c_smap_Map_Free, nilOf]
  unfold SFree at hK
  refine call_of (at_okS c hc h (fun hg => ?_) fun x hg => ?_)
  · rw [hg] at hK
    simp -implicitDefEqProofs [nilOf]
    exact hK _ (IHeap.upd_refl _ _) rfl h rfl
  · rw [hg] at hK
    simp only at hK
    obtain ⟨i0, i1, hx⟩ := getS_some hg
    obtain ⟨g1, g2, hrow, hbd, hq, hpq⟩ := h.at hx
    have r1 := row_get hrow 1 (by omega)
    simp only [rowSt, List.getElem?_cons_succ, List.getElem?_cons_zero] at r1
    have hxo := h.ok x (List.mem_of_getElem? hx)
    have hop : opn L ≤ 4096 := Nat.le_trans (opn_le L) h.len
    by_cases hs : x.st = 3
    · rw [if_pos hs] at hK
      simp -implicitDefEqProofs [nilOf, g2, r1, hs]
      exact hK _ (IHeap.upd_refl _ _) rfl h rfl
    · rw [if_neg hs] at hK
      have ho := opn_set (y := { x with st := 3 }) hx
      have hio : isOpen x = true := by simp [isOpen, hs]
      have hio2 : isOpen { x with st := 3 } = false := by simp [isOpen]
      rw [hio, hio2] at ho
      simp only [if_true, Bool.false_eq_true, if_false] at ho
      have ho2 : opn L = opn (L.set id.toNat { x with st := 3 }) + 1 := by omega
      have hw : IntKind.i64.wrap ((opn L : Int) - 1) = (opn (L.set id.toNat { x with st := 3 }) : Int) := by rw [wrap64 (by omega) (by omega)]; omega
      have hbd1 : id.toNat * 6 + 1 + 1 ≤ (rowsB bs L).flatten.length := by omega
      rw [List.length_flatten] at hbd1
      have hput := put_row (bs := bs) (j := 1) (v := .int .i64 3) (y := { x with st := 3 }) hx rfl (by omega) rfl
      have h12 : x.st = 1 ∨ x.st = 2 := by have := hxo.s1; have := hxo.s3; omega
      have fin : ∀ H', H' = (H.set q (.cells (rowsB bs (L.set id.toNat { x with st := 3 })).flatten false)).set p (.cells [.slice (some ⟨q, 0, none⟩) L.length (UNK + 6), .int .i64 (opn (L.set id.toNat { x with st := 3 }))] false) → K (.int .i64 0) H' := by
        rintro H' rfl
        refine hK _ (((IHeap.upd_refl _ _).set (i := q) (.inr (q_foot _ _ _ _)) _).set (i := p) (.inr (p_foot _ _ _ _)) _) rfl ?_ (foot_set ..)
        exact h.mod hx rfl ⟨hxo.may, by simp, by simp, hxo.ep⟩ rfl (by rw [YW, if_pos rfl]) (by rw [YW, if_neg (Ne.symm hpq), YW, if_pos rfl]) (fun b h1 h2 => by rw [YW, if_neg h1, YW, if_neg h2])
      rcases h12 with h12 | h12
      all_goals
        simp -implicitDefEqProofs [nilOf, g2, r1, h12, hbd1, hput, hpq, Ne.symm hpq, g1, hw]
        exact fin _ rfl

theorem SGet_ok {p q : Nat} {bs : Nat → Nat} {L : List St} {id : Int} (h : IsS H p q bs L) (h0 : getS L id = none → ∀ H', H.le H' → K (.tuple #[stV 0 ⟨0, 0, 0, 0, []⟩ (.slice none 0 0), .bool false]) H')
    (h1 : ∀ x v H', getS L id = some x → H.le H' → SlW H' 1 v (x.sv.map rowI) → (∀ S : List Nat, (∀ b ∈ S, b < H.next) → Far H' v S) → K (.tuple #[stV id.toNat x v, .bool true]) H') :
    c.C (c.F n_smap_Map_Get) [.pointer (some ⟨p, 0, none⟩), .int .i64 id] H K := by
  refine c.enter hc.smap_Map_Get rfl ?_
  obtain ⟨HA, hHA⟩ : ∃ HA : IHeap, HA = H.alloc (.cells [.int .i64 0, .int .i64 0, .int .i64 0, .int .i64 0, .int .i64 0, .slice none 0 0] false) := ⟨_, rfl⟩
  have kA : H.le HA := by rw [hHA]; exact H.le_alloc _
  have nA : HA.next = H.next + 1 := by rw [hHA]; rfl
  have gA : HA.get H.next = some (.cells [.int .i64 0, .int .i64 0, .int .i64 0, .int .i64 0, .int .i64 0, .slice none 0 0] false) := by rw [hHA, YV, if_pos rfl]
  simp -implicitDefEqProofs [c_smap_Map_Get, ← hHA]
  refine call_of (at_okS c hc (h.le kA) (fun hg => ?_) fun x hg => ?_)
  · simp -implicitDefEqProofs [nilOf, gA]
    exact h0 hg _ (kA.set (Nat.le_refl _) _)
  · obtain ⟨i0, i1, hx⟩ := getS_some hg
    obtain ⟨g1, g2, hrow, hbd, hq, hpq⟩ := (h.le kA).at hx
    obtain ⟨cs, hcs⟩ : ∃ cs, cs = (rowsB bs L).flatten := ⟨_, rfl⟩
    rw [← hcs] at g2 hrow hbd
    have eid : ((id.toNat : Nat) : Int) = id := by omega
    simp only [rowSt, slS, eid] at hrow
    have hsl := (h.le kA).sl hx
    simp only [slS] at hsl
    have hxo := St.may_iff.1 (h.ok x (List.mem_of_getElem? hx)).may
    simp -implicitDefEqProofs [nilOf, g2, hrow, hbd, List.length_cons]
    obtain ⟨HB, hHB⟩ : ∃ HB : IHeap, HB = (HA.alloc (.cells [.int .i64 0, .int .i64 0, .int .i64 0, .int .i64 0, .int .i64 0, .slice none 0 0] false)).set HA.next (.cells [.int .i64 id, .int .i64 x.st, .int .i64 x.ow, .int .i64 x.ep, .int .i64 x.le, .slice (some ⟨bs id.toNat, 0, none⟩) x.sv.length (UNK + 1)] false) := ⟨_, rfl⟩
    rw [← hHB]
    have kB : HA.le HB := by rw [hHB]; exact (HA.le_alloc _).set (Nat.le_refl _) _
    have nB : HB.next = HA.next + 1 := by rw [hHB]; rfl
    have gB : HB.get HA.next = some (.cells [.int .i64 id, .int .i64 x.st, .int .i64 x.ow, .int .i64 x.ep, .int .i64 x.le, .slice (some ⟨bs id.toNat, 0, none⟩) x.sv.length (UNK + 1)] false) := by rw [hHB, YW, if_pos rfl]
    refine call_of (Clone_ok c hc (hsl.le kB) (by omega) fun v' HC kC w1 w2 _ => ?_)
    have gC := (kC.get HA.next (by omega)).trans gB
    have gC2 := (kC.get H.next (by omega)).trans ((kB.get H.next (by omega)).trans gA)
    have w1' := w1
    obtain ⟨a, cap, rfl⟩ := w1.len
    have x1 : H.next ≠ HA.next := by omega
    simp -implicitDefEqProofs [gC, gC2, x1, Ne.symm x1, List.length_map]
    have nC := kC.next
    have up : ∀ y z, IHeap.upd [H.next, HA.next] HC ((HC.set HA.next y).set H.next z) := fun y z => ((IHeap.upd_refl _ _).set (.inr (by simp)) _).set (.inr (by simp)) _
    have kD : ∀ y z, H.le ((HC.set HA.next y).set H.next z) := fun y z => (((kA.trans kB).trans kC).set (by omega) _).set (Nat.le_refl _) _
    have hin : ∀ b ∈ [H.next, HA.next], b < HB.next := fun b hb => by simp only [List.mem_cons, List.not_mem_nil, or_false] at hb; omega
    have := fun y z => h1 x _ _ hg (kD y z) (w1'.upd (w2 _ hin).off (up y z)) (fun S hS => (w2 S fun b hb => by have := hS b hb; omega).le (by simp only [YY]; exact Nat.le_refl _))
    simp only [stV, eid, List.length_map] at this
    exact this _ _

end
end Go.Proofs.YtndndcdblfejnaaGreatRI
