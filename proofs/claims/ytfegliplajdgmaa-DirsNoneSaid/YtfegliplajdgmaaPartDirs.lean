/- PRINTED by gen.py (this session's own): the intermediate form of some functions, and a context's having them. -/
import Derived.Test.YtfegliplajdgmaaIdealZ
namespace Go.Proofs.YtfegliplajdgmaaI
set_option linter.unusedSimpArgs false
set_option linter.unusedVariables false
open Go

/-- hurdle/dirs.New -/
abbrev n_dirs_New : Nat := 204
/-- (*hurdle/dirs.Dir).find -/
abbrev n_dirs_Dir_find : Nat := 205
/-- (*hurdle/dirs.Dir).find$1 -/
abbrev n_dirs_Dir_find_F1 : Nat := 206
/-- hurdle/dirs.search[hurdle/dirs.entry,string] -/
abbrev n_dirs_search_dirs_entry_string : Nat := 207
/-- hurdle/dirs.Name -/
abbrev n_dirs_Name : Nat := 208
/-- strings.IndexByte -/
abbrev n_strings_IndexByte : Nat := 209
/-- internal/stringslite.IndexByte -/
abbrev n_internal_stringslite_IndexByte : Nat := 210
/-- (*hurdle/dirs.Dir).Add -/
abbrev n_dirs_Dir_Add : Nat := 211
/-- (*hurdle/dirs.Dir).Remove -/
abbrev n_dirs_Dir_Remove : Nat := 212
/-- (*hurdle/dirs.Dir).Look -/
abbrev n_dirs_Dir_Look : Nat := 213
/-- (*hurdle/dirs.Dir).List -/
abbrev n_dirs_Dir_List : Nat := 214
/-- (*hurdle/dirs.Dir).Len -/
abbrev n_dirs_Dir_Len : Nat := 215
/-- (*hurdle/dirs.Dir).Text -/
abbrev n_dirs_Dir_Text : Nat := 216
/-- hurdle/dirs.Read -/
abbrev n_dirs_Read : Nat := 217
/-- slices.Insert[[]hurdle/dirs.entry,hurdle/dirs.entry] -/
abbrev n_slices_Insert_dirs_entry_dirs_entry : Nat := 218
/-- slices.Delete[[]hurdle/dirs.entry,hurdle/dirs.entry] -/
abbrev n_slices_Delete_dirs_entry_dirs_entry : Nat := 219
/-- hurdle/dirs.New -/
def c_dirs_New (F : Nat → FuncId) (Ty : Nat → TypeId) : IFunc := ⟨3, [.tmp 0],
 .seq (.ops [⟨some 0, .move (.const (.pointer none)), none⟩])
 (.seq (.ops [⟨some 1, .build [.slice none 0 0] [], none⟩,
 ⟨some 2, .box (.tmp 1), none⟩,
 ⟨some 0, .move (.tmp 2), none⟩])
 (.ret))⟩
/-- (*hurdle/dirs.Dir).find -/
def c_dirs_Dir_find (F : Nat → FuncId) (Ty : Nat → TypeId) : IFunc := ⟨16, [.tmp 4, .tmp 5],
 .seq (.ops [⟨some 4, .move (.const (.int .i64 0)), none⟩,
 ⟨some 5, .move (.const (.bool false)), none⟩])
 (.seq (.seq (.ops [⟨some 6, .move (.tmp 0), none⟩,
 ⟨some 7, .eqNil 0 false (.tmp 6), none⟩])
 (.cond (.tmp 7)
 (.seq (.ops [⟨some 4, .move (.const (.int .i64 0)), none⟩,
 ⟨some 5, .move (.const (.bool false)), none⟩])
 (.ret))
 (.skip)))
 (.seq (.ops [⟨some 8, .move (.tmp 0), none⟩,
 ⟨some 9, .nilCheck (.tmp 8), none⟩,
 ⟨some 10, .fieldAddr 0 (.tmp 9), none⟩,
 ⟨some 11, .load1 (.tmp 10), none⟩,
 ⟨some 12, .move (.tmp 1), none⟩,
 ⟨some 13, .call (F 207) [.tmp 11, .tmp 12, .func (F 206)], none⟩,
 ⟨some 14, .extract (.tmp 13) 0, none⟩,
 ⟨some 15, .extract (.tmp 13) 1, none⟩,
 ⟨some 4, .move (.tmp 14), none⟩,
 ⟨some 5, .move (.tmp 15), none⟩])
 (.ret)))⟩
/-- (*hurdle/dirs.Dir).find$1 -/
def c_dirs_Dir_find_F1 (F : Nat → FuncId) (Ty : Nat → TypeId) : IFunc := ⟨5, [.tmp 2],
 .seq (.ops [⟨some 1, .box (.tmp 0), none⟩,
 ⟨some 2, .move (.const (.string ⟨#[]⟩)), none⟩])
 (.seq (.ops [⟨some 3, .fieldAddr 0 (.tmp 1), none⟩,
 ⟨some 4, .load1 (.tmp 3), none⟩,
 ⟨some 2, .move (.tmp 4), none⟩])
 (.ret))⟩
/-- hurdle/dirs.search[hurdle/dirs.entry,string] -/
def c_dirs_search_dirs_entry_string (F : Nat → FuncId) (Ty : Nat → TypeId) : IFunc := ⟨46, [.tmp 6, .tmp 7],
 .seq (.ops [⟨some 6, .move (.const (.int .i64 0)), none⟩,
 ⟨some 7, .move (.const (.bool false)), none⟩])
 (.seq (.ops [⟨some 11, .move (.tmp 0), none⟩,
 ⟨some 12, .lenSl (.tmp 11), none⟩,
 ⟨some 8, .move (.const (.int .i64 0)), none⟩,
 ⟨some 9, .move (.tmp 12), none⟩])
 (.seq (.block 0 (.loop (.seq (.seq (.ops [⟨some 13, .move (.tmp 8), none⟩,
 ⟨some 14, .move (.tmp 9), none⟩,
 ⟨some 15, .bin .lss (.tmp 13) (.tmp 14), none⟩])
 (.cond (.tmp 15)
 (.skip)
 (.exit 0)))
 (.block 1 (.seq (.ops [⟨some 16, .move (.tmp 8), none⟩,
 ⟨some 17, .move (.tmp 9), none⟩,
 ⟨some 18, .bin .add (.tmp 16) (.tmp 17), none⟩,
 ⟨some 19, .bin .quo (.tmp 18) (.const (.int .i64 2)), none⟩,
 ⟨some 10, .move (.tmp 19), none⟩])
 (.seq (.ops [⟨some 20, .move (.tmp 2), none⟩,
 ⟨some 21, .move (.tmp 0), none⟩,
 ⟨some 22, .move (.tmp 10), none⟩,
 ⟨some 23, .idxSl 2 (.tmp 21) (.tmp 22), none⟩,
 ⟨some 24, .loadN 2 (.tmp 23), none⟩,
 ⟨some 25, .callDyn (.tmp 20) [.tmp 24], none⟩,
 ⟨some 26, .move (.tmp 1), none⟩,
 ⟨some 27, .bin .lss (.tmp 25) (.tmp 26), none⟩])
 (.cond (.tmp 27)
 (.ops [⟨some 28, .move (.tmp 10), none⟩,
 ⟨some 29, .bin .add (.tmp 28) (.const (.int .i64 1)), none⟩,
 ⟨some 8, .move (.tmp 29), none⟩])
 (.ops [⟨some 30, .move (.tmp 10), none⟩,
 ⟨some 9, .move (.tmp 30), none⟩]))))))))
 (.seq (.ops [⟨some 31, .move (.tmp 8), none⟩,
 ⟨some 32, .move (.tmp 8), none⟩,
 ⟨some 33, .move (.tmp 0), none⟩,
 ⟨some 34, .lenSl (.tmp 33), none⟩,
 ⟨some 35, .bin .lss (.tmp 32) (.tmp 34), none⟩,
 ⟨some 36, .move (.tmp 35), none⟩,
 ⟨some 37, .move (.tmp 2), some (36, true)⟩,
 ⟨some 38, .move (.tmp 0), some (36, true)⟩,
 ⟨some 39, .move (.tmp 8), some (36, true)⟩,
 ⟨some 40, .idxSl 2 (.tmp 38) (.tmp 39), some (36, true)⟩,
 ⟨some 41, .loadN 2 (.tmp 40), some (36, true)⟩,
 ⟨some 42, .callDyn (.tmp 37) [.tmp 41], some (36, true)⟩,
 ⟨some 43, .move (.tmp 1), some (36, true)⟩,
 ⟨some 44, .bin .eql (.tmp 42) (.tmp 43), some (36, true)⟩,
 ⟨some 45, .pick (.tmp 36) (.tmp 44) (.const (.bool false)), none⟩,
 ⟨some 6, .move (.tmp 31), none⟩,
 ⟨some 7, .move (.tmp 45), none⟩])
 (.ret))))⟩
/-- hurdle/dirs.Name -/
def c_dirs_Name (F : Nat → FuncId) (Ty : Nat → TypeId) : IFunc := ⟨28, [.tmp 2],
 .seq (.ops [⟨some 2, .move (.const (.bool false)), none⟩])
 (.seq (.ops [⟨some 3, .move (.tmp 0), none⟩,
 ⟨some 4, .bin .neq (.tmp 3) (.const (.string ⟨#[]⟩)), none⟩,
 ⟨some 5, .move (.tmp 4), none⟩,
 ⟨some 6, .move (.tmp 0), some (5, true)⟩,
 ⟨some 7, .strLen (.tmp 6), some (5, true)⟩,
 ⟨some 8, .bin .leq (.tmp 7) (.const (.int .i64 28)), some (5, true)⟩,
 ⟨some 9, .pick (.tmp 5) (.tmp 8) (.const (.bool false)), none⟩,
 ⟨some 10, .move (.tmp 9), none⟩,
 ⟨some 11, .move (.tmp 0), some (10, true)⟩,
 ⟨some 12, .bin .neq (.tmp 11) (.const (.string ⟨#[46]⟩)), some (10, true)⟩,
 ⟨some 13, .pick (.tmp 10) (.tmp 12) (.const (.bool false)), none⟩,
 ⟨some 14, .move (.tmp 13), none⟩,
 ⟨some 15, .move (.tmp 0), some (14, true)⟩,
 ⟨some 16, .bin .neq (.tmp 15) (.const (.string ⟨#[46, 46]⟩)), some (14, true)⟩,
 ⟨some 17, .pick (.tmp 14) (.tmp 16) (.const (.bool false)), none⟩,
 ⟨some 18, .move (.tmp 17), none⟩,
 ⟨some 19, .move (.tmp 0), some (18, true)⟩,
 ⟨some 20, .call (F 209) [.tmp 19, .const (.int .u8 47)], some (18, true)⟩,
 ⟨some 21, .bin .lss (.tmp 20) (.const (.int .i64 0)), some (18, true)⟩,
 ⟨some 22, .pick (.tmp 18) (.tmp 21) (.const (.bool false)), none⟩,
 ⟨some 23, .move (.tmp 22), none⟩,
 ⟨some 24, .move (.tmp 0), some (23, true)⟩,
 ⟨some 25, .call (F 209) [.tmp 24, .const (.int .u8 0)], some (23, true)⟩,
 ⟨some 26, .bin .lss (.tmp 25) (.const (.int .i64 0)), some (23, true)⟩,
 ⟨some 27, .pick (.tmp 23) (.tmp 26) (.const (.bool false)), none⟩,
 ⟨some 2, .move (.tmp 27), none⟩])
 (.ret))⟩
/-- strings.IndexByte -/
def c_strings_IndexByte (F : Nat → FuncId) (Ty : Nat → TypeId) : IFunc := ⟨8, [.tmp 4],
 .seq (.ops [⟨some 4, .move (.const (.int .i64 0)), none⟩])
 (.seq (.ops [⟨some 5, .move (.tmp 0), none⟩,
 ⟨some 6, .move (.tmp 1), none⟩,
 ⟨some 7, .call (F 210) [.tmp 5, .tmp 6], none⟩,
 ⟨some 4, .move (.tmp 7), none⟩])
 (.ret))⟩
/-- internal/stringslite.IndexByte -/
def c_internal_stringslite_IndexByte (F : Nat → FuncId) (Ty : Nat → TypeId) : IFunc := ⟨8, [.tmp 4],
 .seq (.ops [⟨some 4, .move (.const (.int .i64 0)), none⟩])
 (.seq (.ops [⟨some 5, .move (.tmp 0), none⟩,
 ⟨some 6, .move (.tmp 1), none⟩,
 ⟨some 7, .call (F 220) [.tmp 5, .tmp 6], none⟩,
 ⟨some 4, .move (.tmp 7), none⟩])
 (.ret))⟩
/-- (*hurdle/dirs.Dir).Add -/
def c_dirs_Dir_Add (F : Nat → FuncId) (Ty : Nat → TypeId) : IFunc := ⟨44, [.tmp 6],
 .seq (.ops [⟨some 6, .move (.const (.int .i64 0)), none⟩])
 (.seq (.block 0 (.seq (.ops [⟨some 10, .move (.tmp 0), none⟩,
 ⟨some 11, .eqNil 0 false (.tmp 10), none⟩,
 ⟨some 12, .move (.tmp 11), none⟩,
 ⟨some 13, .move (.tmp 2), some (12, false)⟩,
 ⟨some 14, .bin .lss (.tmp 13) (.const (.int .i64 1)), some (12, false)⟩,
 ⟨some 15, .pick (.tmp 12) (.const (.bool true)) (.tmp 14), none⟩,
 ⟨some 16, .move (.tmp 15), none⟩,
 ⟨some 17, .move (.tmp 2), some (16, false)⟩,
 ⟨some 18, .bin .geq (.tmp 17) (.const (.int .i64 256)), some (16, false)⟩,
 ⟨some 19, .pick (.tmp 16) (.const (.bool true)) (.tmp 18), none⟩,
 ⟨some 9, .move (.tmp 19), none⟩])
 (.cond (.tmp 9)
 (.seq (.ops [⟨some 6, .move (.const (.int .i64 1)), none⟩])
 (.ret))
 (.seq (.ops [⟨some 21, .move (.tmp 1), none⟩,
 ⟨some 22, .call (F 208) [.tmp 21], none⟩,
 ⟨some 23, .un .not (.tmp 22), none⟩,
 ⟨some 20, .move (.tmp 23), none⟩])
 (.cond (.tmp 20)
 (.seq (.ops [⟨some 6, .move (.const (.int .i64 15)), none⟩])
 (.ret))
 (.skip))))))
 (.seq (.ops [⟨some 25, .move (.tmp 0), none⟩,
 ⟨some 26, .move (.tmp 1), none⟩,
 ⟨some 27, .call (F 205) [.tmp 25, .tmp 26], none⟩,
 ⟨some 24, .move (.tmp 27), none⟩,
 ⟨some 28, .extract (.tmp 24) 0, none⟩,
 ⟨some 29, .extract (.tmp 24) 1, none⟩,
 ⟨some 7, .move (.tmp 28), none⟩,
 ⟨some 8, .move (.tmp 29), none⟩])
 (.seq (.seq (.ops [⟨some 30, .move (.tmp 8), none⟩])
 (.cond (.tmp 30)
 (.seq (.ops [⟨some 6, .move (.const (.int .i64 6)), none⟩])
 (.ret))
 (.skip)))
 (.seq (.ops [⟨some 31, .move (.tmp 0), none⟩,
 ⟨some 32, .move (.tmp 0), none⟩,
 ⟨some 33, .nilCheck (.tmp 32), none⟩,
 ⟨some 34, .fieldAddr 0 (.tmp 33), none⟩,
 ⟨some 35, .load1 (.tmp 34), none⟩,
 ⟨some 36, .move (.tmp 7), none⟩,
 ⟨some 37, .move (.tmp 1), none⟩,
 ⟨some 38, .move (.tmp 2), none⟩,
 ⟨some 39, .build [.string ⟨#[]⟩, .int .i64 0] [((0, 1), .tmp 37), ((1, 1), .tmp 38)], none⟩,
 ⟨some 40, .buildSlice 1 [.string ⟨#[]⟩, .int .i64 0] [((0, 2), .tmp 39)], none⟩,
 ⟨some 41, .call (F 218) [.tmp 35, .tmp 36, .tmp 40], none⟩,
 ⟨some 42, .nilCheck (.tmp 31), none⟩,
 ⟨some 43, .fieldAddr 0 (.tmp 42), none⟩,
 ⟨none, .store 1 (.tmp 43) (.tmp 41), none⟩])
 (.seq (.ops [⟨some 6, .move (.const (.int .i64 0)), none⟩])
 (.ret))))))⟩
/-- (*hurdle/dirs.Dir).Remove -/
def c_dirs_Dir_Remove (F : Nat → FuncId) (Ty : Nat → TypeId) : IFunc := ⟨39, [.tmp 4, .tmp 5],
 .seq (.ops [⟨some 4, .move (.const (.int .i64 0)), none⟩,
 ⟨some 5, .move (.const (.int .i64 0)), none⟩])
 (.seq (.seq (.ops [⟨some 9, .move (.tmp 0), none⟩,
 ⟨some 10, .eqNil 0 false (.tmp 9), none⟩])
 (.cond (.tmp 10)
 (.seq (.ops [⟨some 4, .move (.const (.int .i64 0)), none⟩,
 ⟨some 5, .move (.const (.int .i64 1)), none⟩])
 (.ret))
 (.skip)))
 (.seq (.ops [⟨some 12, .move (.tmp 0), none⟩,
 ⟨some 13, .move (.tmp 1), none⟩,
 ⟨some 14, .call (F 205) [.tmp 12, .tmp 13], none⟩,
 ⟨some 11, .move (.tmp 14), none⟩,
 ⟨some 15, .extract (.tmp 11) 0, none⟩,
 ⟨some 16, .extract (.tmp 11) 1, none⟩,
 ⟨some 6, .move (.tmp 15), none⟩,
 ⟨some 7, .move (.tmp 16), none⟩])
 (.seq (.seq (.ops [⟨some 17, .move (.tmp 7), none⟩,
 ⟨some 18, .un .not (.tmp 17), none⟩])
 (.cond (.tmp 18)
 (.seq (.ops [⟨some 4, .move (.const (.int .i64 0)), none⟩,
 ⟨some 5, .move (.const (.int .i64 7)), none⟩])
 (.ret))
 (.skip)))
 (.seq (.ops [⟨some 19, .move (.tmp 0), none⟩,
 ⟨some 20, .nilCheck (.tmp 19), none⟩,
 ⟨some 21, .fieldAddr 0 (.tmp 20), none⟩,
 ⟨some 22, .load1 (.tmp 21), none⟩,
 ⟨some 23, .move (.tmp 6), none⟩,
 ⟨some 24, .idxSl 2 (.tmp 22) (.tmp 23), none⟩,
 ⟨some 25, .fieldAddr 1 (.tmp 24), none⟩,
 ⟨some 26, .load1 (.tmp 25), none⟩,
 ⟨some 8, .move (.tmp 26), none⟩])
 (.seq (.ops [⟨some 27, .move (.tmp 0), none⟩,
 ⟨some 28, .move (.tmp 0), none⟩,
 ⟨some 29, .nilCheck (.tmp 28), none⟩,
 ⟨some 30, .fieldAddr 0 (.tmp 29), none⟩,
 ⟨some 31, .load1 (.tmp 30), none⟩,
 ⟨some 32, .move (.tmp 6), none⟩,
 ⟨some 33, .move (.tmp 6), none⟩,
 ⟨some 34, .bin .add (.tmp 33) (.const (.int .i64 1)), none⟩,
 ⟨some 35, .call (F 219) [.tmp 31, .tmp 32, .tmp 34], none⟩,
 ⟨some 36, .nilCheck (.tmp 27), none⟩,
 ⟨some 37, .fieldAddr 0 (.tmp 36), none⟩,
 ⟨none, .store 1 (.tmp 37) (.tmp 35), none⟩])
 (.seq (.ops [⟨some 38, .move (.tmp 8), none⟩,
 ⟨some 4, .move (.tmp 38), none⟩,
 ⟨some 5, .move (.const (.int .i64 0)), none⟩])
 (.ret)))))))⟩
/-- (*hurdle/dirs.Dir).Look -/
def c_dirs_Dir_Look (F : Nat → FuncId) (Ty : Nat → TypeId) : IFunc := ⟨24, [.tmp 4, .tmp 5],
 .seq (.ops [⟨some 4, .move (.const (.int .i64 0)), none⟩,
 ⟨some 5, .move (.const (.int .i64 0)), none⟩])
 (.seq (.ops [⟨some 9, .move (.tmp 0), none⟩,
 ⟨some 10, .move (.tmp 1), none⟩,
 ⟨some 11, .call (F 205) [.tmp 9, .tmp 10], none⟩,
 ⟨some 8, .move (.tmp 11), none⟩,
 ⟨some 12, .extract (.tmp 8) 0, none⟩,
 ⟨some 13, .extract (.tmp 8) 1, none⟩,
 ⟨some 6, .move (.tmp 12), none⟩,
 ⟨some 7, .move (.tmp 13), none⟩])
 (.seq (.seq (.ops [⟨some 14, .move (.tmp 7), none⟩,
 ⟨some 15, .un .not (.tmp 14), none⟩])
 (.cond (.tmp 15)
 (.seq (.ops [⟨some 4, .move (.const (.int .i64 0)), none⟩,
 ⟨some 5, .move (.const (.int .i64 7)), none⟩])
 (.ret))
 (.skip)))
 (.seq (.ops [⟨some 16, .move (.tmp 0), none⟩,
 ⟨some 17, .nilCheck (.tmp 16), none⟩,
 ⟨some 18, .fieldAddr 0 (.tmp 17), none⟩,
 ⟨some 19, .load1 (.tmp 18), none⟩,
 ⟨some 20, .move (.tmp 6), none⟩,
 ⟨some 21, .idxSl 2 (.tmp 19) (.tmp 20), none⟩,
 ⟨some 22, .fieldAddr 1 (.tmp 21), none⟩,
 ⟨some 23, .load1 (.tmp 22), none⟩,
 ⟨some 4, .move (.tmp 23), none⟩,
 ⟨some 5, .move (.const (.int .i64 0)), none⟩])
 (.ret))))⟩
/-- (*hurdle/dirs.Dir).List -/
def c_dirs_Dir_List (F : Nat → FuncId) (Ty : Nat → TypeId) : IFunc := ⟨24, [.tmp 2],
 .seq (.ops [⟨some 2, .move (.const (.slice none 0 0)), none⟩])
 (.seq (.seq (.ops [⟨some 6, .move (.tmp 0), none⟩,
 ⟨some 7, .eqNil 0 false (.tmp 6), none⟩])
 (.cond (.tmp 7)
 (.seq (.ops [⟨some 2, .move (.const (.slice none 0 0)), none⟩])
 (.ret))
 (.skip)))
 (.seq (.ops [⟨some 3, .move (.const (.slice none 0 0)), none⟩])
 (.seq (.seq (.ops [⟨some 8, .move (.tmp 0), none⟩,
 ⟨some 9, .nilCheck (.tmp 8), none⟩,
 ⟨some 10, .fieldAddr 0 (.tmp 9), none⟩,
 ⟨some 11, .load1 (.tmp 10), none⟩,
 ⟨some 12, .lenSl (.tmp 11), none⟩,
 ⟨some 13, .move (.const (.int .i64 0)), none⟩])
 (.block 0 (.loop (.seq (.ops [⟨some 14, .bin .lss (.tmp 13) (.tmp 12), none⟩])
 (.seq (.cond (.tmp 14)
 (.skip)
 (.exit 0))
 (.seq (.block 1 (.seq (.ops [⟨some 15, .idxSl 2 (.tmp 11) (.tmp 13), none⟩,
 ⟨some 16, .loadN 2 (.tmp 15), none⟩,
 ⟨some 5, .alloc [.string ⟨#[]⟩, .int .i64 0], none⟩,
 ⟨none, .store 2 (.tmp 5) (.tmp 16), none⟩])
 (.ops [⟨some 17, .move (.tmp 3), none⟩,
 ⟨some 18, .fieldAddr 0 (.tmp 5), none⟩,
 ⟨some 19, .load1 (.tmp 18), none⟩,
 ⟨some 20, .buildSlice 1 [.string ⟨#[]⟩] [((0, 1), .tmp 19)], none⟩,
 ⟨some 21, .append 1 16 (.tmp 17) (.tmp 20), none⟩,
 ⟨some 3, .move (.tmp 21), none⟩])))
 (.ops [⟨some 22, .bin .add (.tmp 13) (.const (.int .i64 1)), none⟩,
 ⟨some 13, .move (.tmp 22), none⟩])))))))
 (.seq (.ops [⟨some 23, .move (.tmp 3), none⟩,
 ⟨some 2, .move (.tmp 23), none⟩])
 (.ret)))))⟩
/-- (*hurdle/dirs.Dir).Len -/
def c_dirs_Dir_Len (F : Nat → FuncId) (Ty : Nat → TypeId) : IFunc := ⟨10, [.tmp 2],
 .seq (.ops [⟨some 2, .move (.const (.int .i64 0)), none⟩])
 (.seq (.seq (.ops [⟨some 3, .move (.tmp 0), none⟩,
 ⟨some 4, .eqNil 0 false (.tmp 3), none⟩])
 (.cond (.tmp 4)
 (.seq (.ops [⟨some 2, .move (.const (.int .i64 0)), none⟩])
 (.ret))
 (.skip)))
 (.seq (.ops [⟨some 5, .move (.tmp 0), none⟩,
 ⟨some 6, .nilCheck (.tmp 5), none⟩,
 ⟨some 7, .fieldAddr 0 (.tmp 6), none⟩,
 ⟨some 8, .load1 (.tmp 7), none⟩,
 ⟨some 9, .lenSl (.tmp 8), none⟩,
 ⟨some 2, .move (.tmp 9), none⟩])
 (.ret)))⟩
/-- (*hurdle/dirs.Dir).Text -/
def c_dirs_Dir_Text (F : Nat → FuncId) (Ty : Nat → TypeId) : IFunc := ⟨42, [.tmp 2],
 .seq (.ops [⟨some 2, .move (.const (.string ⟨#[]⟩)), none⟩])
 (.seq (.seq (.ops [⟨some 8, .move (.tmp 0), none⟩,
 ⟨some 9, .eqNil 0 false (.tmp 8), none⟩])
 (.cond (.tmp 9)
 (.seq (.ops [⟨some 2, .move (.const (.string ⟨#[]⟩)), none⟩])
 (.ret))
 (.skip)))
 (.seq (.ops [⟨some 10, .call (F 31) [.const (.int .i64 65536)], none⟩,
 ⟨some 3, .move (.tmp 10), none⟩])
 (.seq (.ops [⟨some 11, .move (.tmp 3), none⟩,
 ⟨some 12, .move (.tmp 0), none⟩,
 ⟨some 13, .nilCheck (.tmp 12), none⟩,
 ⟨some 14, .fieldAddr 0 (.tmp 13), none⟩,
 ⟨some 15, .load1 (.tmp 14), none⟩,
 ⟨some 16, .lenSl (.tmp 15), none⟩,
 ⟨some 17, .call (F 34) [.tmp 11, .tmp 16], none⟩])
 (.seq (.seq (.ops [⟨some 18, .move (.tmp 0), none⟩,
 ⟨some 19, .nilCheck (.tmp 18), none⟩,
 ⟨some 20, .fieldAddr 0 (.tmp 19), none⟩,
 ⟨some 21, .load1 (.tmp 20), none⟩,
 ⟨some 22, .lenSl (.tmp 21), none⟩,
 ⟨some 23, .move (.const (.int .i64 0)), none⟩])
 (.block 0 (.loop (.seq (.ops [⟨some 24, .bin .lss (.tmp 23) (.tmp 22), none⟩])
 (.seq (.cond (.tmp 24)
 (.skip)
 (.exit 0))
 (.seq (.block 1 (.seq (.ops [⟨some 25, .idxSl 2 (.tmp 21) (.tmp 23), none⟩,
 ⟨some 26, .loadN 2 (.tmp 25), none⟩,
 ⟨some 5, .alloc [.string ⟨#[]⟩, .int .i64 0], none⟩,
 ⟨none, .store 2 (.tmp 5) (.tmp 26), none⟩])
 (.seq (.ops [⟨some 27, .move (.tmp 3), none⟩,
 ⟨some 28, .fieldAddr 0 (.tmp 5), none⟩,
 ⟨some 29, .load1 (.tmp 28), none⟩,
 ⟨some 30, .call (F 33) [.tmp 27, .tmp 29], none⟩])
 (.ops [⟨some 31, .move (.tmp 3), none⟩,
 ⟨some 32, .fieldAddr 1 (.tmp 5), none⟩,
 ⟨some 33, .load1 (.tmp 32), none⟩,
 ⟨some 34, .call (F 34) [.tmp 31, .tmp 33], none⟩]))))
 (.ops [⟨some 35, .bin .add (.tmp 23) (.const (.int .i64 1)), none⟩,
 ⟨some 23, .move (.tmp 35), none⟩])))))))
 (.seq (.ops [⟨some 37, .move (.tmp 3), none⟩,
 ⟨some 38, .call (F 35) [.tmp 37], none⟩,
 ⟨some 36, .move (.tmp 38), none⟩,
 ⟨some 39, .extract (.tmp 36) 0, none⟩,
 ⟨some 40, .extract (.tmp 36) 1, none⟩,
 ⟨some 6, .move (.tmp 39), none⟩,
 ⟨some 7, .move (.tmp 40), none⟩])
 (.seq (.ops [⟨some 41, .move (.tmp 6), none⟩,
 ⟨some 2, .move (.tmp 41), none⟩])
 (.ret)))))))⟩
/-- hurdle/dirs.Read -/
def c_dirs_Read (F : Nat → FuncId) (Ty : Nat → TypeId) : IFunc := ⟨46, [.tmp 2, .tmp 3],
 .seq (.ops [⟨some 2, .move (.const (.pointer none)), none⟩,
 ⟨some 3, .move (.const (.int .i64 0)), none⟩])
 (.seq (.ops [⟨some 10, .move (.tmp 0), none⟩,
 ⟨some 11, .call (F 26) [.tmp 10], none⟩,
 ⟨some 12, .call (F 204) [], none⟩,
 ⟨some 4, .move (.tmp 11), none⟩,
 ⟨some 5, .move (.tmp 12), none⟩])
 (.seq (.ops [⟨some 13, .move (.tmp 4), none⟩,
 ⟨some 14, .call (F 29) [.tmp 13], none⟩,
 ⟨some 6, .move (.tmp 14), none⟩])
 (.seq (.seq (.ops [⟨some 15, .move (.tmp 6), none⟩,
 ⟨some 16, .bin .lss (.tmp 15) (.const (.int .i64 0)), none⟩,
 ⟨some 17, .move (.tmp 16), none⟩,
 ⟨some 18, .move (.tmp 6), some (17, false)⟩,
 ⟨some 19, .move (.tmp 4), some (17, false)⟩,
 ⟨some 20, .call (F 36) [.tmp 19], some (17, false)⟩,
 ⟨some 21, .bin .gtr (.tmp 18) (.tmp 20), some (17, false)⟩,
 ⟨some 22, .pick (.tmp 17) (.const (.bool true)) (.tmp 21), none⟩])
 (.cond (.tmp 22)
 (.seq (.ops [⟨some 2, .move (.const (.pointer none)), none⟩,
 ⟨some 3, .move (.const (.int .i64 3)), none⟩])
 (.ret))
 (.skip)))
 (.seq (.ops [⟨some 7, .move (.const (.string ⟨#[]⟩)), none⟩])
 (.seq (.seq (.ops [⟨some 23, .move (.tmp 6), none⟩,
 ⟨some 24, .move (.const (.int .i64 0)), none⟩])
 (.block 0 (.loop (.seq (.ops [⟨some 25, .bin .lss (.tmp 24) (.tmp 23), none⟩])
 (.seq (.cond (.tmp 25)
 (.skip)
 (.exit 0))
 (.seq (.block 1 (.seq (.ops [⟨some 26, .move (.tmp 4), none⟩,
 ⟨some 27, .call (F 28) [.tmp 26], none⟩,
 ⟨some 28, .move (.tmp 4), none⟩,
 ⟨some 29, .call (F 29) [.tmp 28], none⟩,
 ⟨some 8, .move (.tmp 27), none⟩,
 ⟨some 9, .move (.tmp 29), none⟩])
 (.seq (.seq (.ops [⟨some 30, .move (.tmp 8), none⟩,
 ⟨some 31, .move (.tmp 7), none⟩,
 ⟨some 32, .bin .leq (.tmp 30) (.tmp 31), none⟩,
 ⟨some 33, .move (.tmp 32), none⟩,
 ⟨some 34, .move (.tmp 5), some (33, false)⟩,
 ⟨some 35, .move (.tmp 8), some (33, false)⟩,
 ⟨some 36, .move (.tmp 9), some (33, false)⟩,
 ⟨some 37, .call (F 211) [.tmp 34, .tmp 35, .tmp 36], some (33, false)⟩,
 ⟨some 38, .bin .neq (.tmp 37) (.const (.int .i64 0)), some (33, false)⟩,
 ⟨some 39, .pick (.tmp 33) (.const (.bool true)) (.tmp 38), none⟩])
 (.cond (.tmp 39)
 (.seq (.ops [⟨some 2, .move (.const (.pointer none)), none⟩,
 ⟨some 3, .move (.const (.int .i64 3)), none⟩])
 (.ret))
 (.skip)))
 (.ops [⟨some 40, .move (.tmp 8), none⟩,
 ⟨some 7, .move (.tmp 40), none⟩]))))
 (.ops [⟨some 41, .bin .add (.tmp 24) (.const (.int .i64 1)), none⟩,
 ⟨some 24, .move (.tmp 41), none⟩])))))))
 (.seq (.seq (.ops [⟨some 42, .move (.tmp 4), none⟩,
 ⟨some 43, .call (F 30) [.tmp 42], none⟩,
 ⟨some 44, .bin .neq (.tmp 43) (.const (.int .i64 0)), none⟩])
 (.cond (.tmp 44)
 (.seq (.ops [⟨some 2, .move (.const (.pointer none)), none⟩,
 ⟨some 3, .move (.const (.int .i64 3)), none⟩])
 (.ret))
 (.skip)))
 (.seq (.ops [⟨some 45, .move (.tmp 5), none⟩,
 ⟨some 2, .move (.tmp 45), none⟩,
 ⟨some 3, .move (.const (.int .i64 0)), none⟩])
 (.ret))))))))⟩
/-- slices.Insert[[]hurdle/dirs.entry,hurdle/dirs.entry] -/
def c_slices_Insert_dirs_entry_dirs_entry (F : Nat → FuncId) (Ty : Nat → TypeId) : IFunc := ⟨95, [.tmp 6],
 .seq (.ops [⟨some 6, .move (.const (.slice none 0 0)), none⟩])
 (.seq (.ops [⟨some 10, .move (.tmp 0), none⟩,
 ⟨some 11, .move (.tmp 1), none⟩,
 ⟨some 12, .sliceSl 2 (.tmp 10) (some (.tmp 11)) none none, none⟩])
 (.seq (.ops [⟨some 13, .move (.tmp 2), none⟩,
 ⟨some 14, .lenSl (.tmp 13), none⟩,
 ⟨some 7, .move (.tmp 14), none⟩])
 (.seq (.seq (.ops [⟨some 15, .move (.tmp 7), none⟩,
 ⟨some 16, .bin .eql (.tmp 15) (.const (.int .i64 0)), none⟩])
 (.cond (.tmp 16)
 (.seq (.ops [⟨some 17, .move (.tmp 0), none⟩,
 ⟨some 6, .move (.tmp 17), none⟩])
 (.ret))
 (.skip)))
 (.seq (.ops [⟨some 18, .move (.tmp 0), none⟩,
 ⟨some 19, .lenSl (.tmp 18), none⟩,
 ⟨some 8, .move (.tmp 19), none⟩])
 (.seq (.seq (.ops [⟨some 20, .move (.tmp 1), none⟩,
 ⟨some 21, .move (.tmp 8), none⟩,
 ⟨some 22, .bin .eql (.tmp 20) (.tmp 21), none⟩])
 (.cond (.tmp 22)
 (.seq (.ops [⟨some 23, .move (.tmp 0), none⟩,
 ⟨some 24, .move (.tmp 2), none⟩,
 ⟨some 25, .append 2 24 (.tmp 23) (.tmp 24), none⟩,
 ⟨some 6, .move (.tmp 25), none⟩])
 (.ret))
 (.skip)))
 (.seq (.seq (.ops [⟨some 26, .move (.tmp 8), none⟩,
 ⟨some 27, .move (.tmp 7), none⟩,
 ⟨some 28, .bin .add (.tmp 26) (.tmp 27), none⟩,
 ⟨some 29, .move (.tmp 0), none⟩,
 ⟨some 30, .capSl (.tmp 29), none⟩,
 ⟨some 31, .bin .gtr (.tmp 28) (.tmp 30), none⟩])
 (.cond (.tmp 31)
 (.seq (.ops [⟨some 32, .move (.tmp 0), none⟩,
 ⟨some 33, .move (.tmp 1), none⟩,
 ⟨some 34, .sliceSl 2 (.tmp 32) none (some (.tmp 33)) none, none⟩,
 ⟨some 35, .move (.tmp 8), none⟩,
 ⟨some 36, .move (.tmp 7), none⟩,
 ⟨some 37, .bin .add (.tmp 35) (.tmp 36), none⟩,
 ⟨some 38, .move (.tmp 1), none⟩,
 ⟨some 39, .bin .sub (.tmp 37) (.tmp 38), none⟩,
 ⟨some 40, .appendZ 24 [.string ⟨#[]⟩, .int .i64 0] (.tmp 34) (.tmp 39), none⟩,
 ⟨some 9, .move (.tmp 40), none⟩])
 (.seq (.ops [⟨some 41, .move (.tmp 9), none⟩,
 ⟨some 42, .move (.tmp 1), none⟩,
 ⟨some 43, .sliceSl 2 (.tmp 41) (some (.tmp 42)) none none, none⟩,
 ⟨some 44, .move (.tmp 2), none⟩,
 ⟨some 45, .copy 2 (.tmp 43) (.tmp 44), none⟩])
 (.seq (.draw [(⟨some 46, .move (.tmp 9), none⟩, []),
 (⟨some 47, .move (.tmp 1), none⟩, []),
 (⟨some 48, .move (.tmp 7), none⟩, []),
 (⟨some 49, .bin .add (.tmp 47) (.tmp 48), none⟩, []),
 (⟨some 50, .sliceSl 2 (.tmp 46) (some (.tmp 49)) none none, none⟩, []),
 (⟨some 51, .move (.tmp 0), none⟩, []),
 (⟨some 52, .move (.tmp 1), none⟩, []),
 (⟨some 53, .sliceSl 2 (.tmp 51) (some (.tmp 52)) none none, none⟩, []),
 (⟨some 54, .copy 2 (.tmp 50) (.tmp 53), none⟩, [])])
 (.seq (.ops [⟨some 55, .move (.tmp 9), none⟩,
 ⟨some 6, .move (.tmp 55), none⟩])
 (.ret)))))
 (.skip)))
 (.seq (.ops [⟨some 56, .move (.tmp 0), none⟩,
 ⟨some 57, .move (.tmp 8), none⟩,
 ⟨some 58, .move (.tmp 7), none⟩,
 ⟨some 59, .bin .add (.tmp 57) (.tmp 58), none⟩,
 ⟨some 60, .sliceSl 2 (.tmp 56) none (some (.tmp 59)) none, none⟩,
 ⟨some 0, .move (.tmp 60), none⟩])
 (.seq (.seq (.ops [⟨some 61, .move (.tmp 2), none⟩,
 ⟨some 62, .move (.tmp 0), none⟩,
 ⟨some 63, .move (.tmp 1), none⟩,
 ⟨some 64, .move (.tmp 7), none⟩,
 ⟨some 65, .bin .add (.tmp 63) (.tmp 64), none⟩,
 ⟨some 66, .sliceSl 2 (.tmp 62) (some (.tmp 65)) none none, none⟩,
 ⟨some 67, .call (F 221) [.tmp 61, .tmp 66], none⟩,
 ⟨some 68, .un .not (.tmp 67), none⟩])
 (.cond (.tmp 68)
 (.seq (.draw [(⟨some 69, .move (.tmp 0), none⟩, []),
 (⟨some 70, .move (.tmp 1), none⟩, []),
 (⟨some 71, .move (.tmp 7), none⟩, []),
 (⟨some 72, .bin .add (.tmp 70) (.tmp 71), none⟩, []),
 (⟨some 73, .sliceSl 2 (.tmp 69) (some (.tmp 72)) none none, none⟩, []),
 (⟨some 74, .move (.tmp 0), none⟩, []),
 (⟨some 75, .move (.tmp 1), none⟩, []),
 (⟨some 76, .sliceSl 2 (.tmp 74) (some (.tmp 75)) none none, none⟩, []),
 (⟨some 77, .copy 2 (.tmp 73) (.tmp 76), none⟩, [])])
 (.seq (.ops [⟨some 78, .move (.tmp 0), none⟩,
 ⟨some 79, .move (.tmp 1), none⟩,
 ⟨some 80, .sliceSl 2 (.tmp 78) (some (.tmp 79)) none none, none⟩,
 ⟨some 81, .move (.tmp 2), none⟩,
 ⟨some 82, .copy 2 (.tmp 80) (.tmp 81), none⟩])
 (.seq (.ops [⟨some 83, .move (.tmp 0), none⟩,
 ⟨some 6, .move (.tmp 83), none⟩])
 (.ret))))
 (.skip)))
 (.seq (.ops [⟨some 84, .move (.tmp 0), none⟩,
 ⟨some 85, .move (.tmp 8), none⟩,
 ⟨some 86, .sliceSl 2 (.tmp 84) (some (.tmp 85)) none none, none⟩,
 ⟨some 87, .move (.tmp 2), none⟩,
 ⟨some 88, .copy 2 (.tmp 86) (.tmp 87), none⟩])
 (.seq (.ops [⟨some 89, .move (.tmp 0), none⟩,
 ⟨some 90, .move (.tmp 1), none⟩,
 ⟨some 91, .sliceSl 2 (.tmp 89) (some (.tmp 90)) none none, none⟩,
 ⟨some 92, .move (.tmp 7), none⟩,
 ⟨some 93, .call (F 222) [.tmp 91, .tmp 92], none⟩])
 (.seq (.ops [⟨some 94, .move (.tmp 0), none⟩,
 ⟨some 6, .move (.tmp 94), none⟩])
 (.ret))))))))))))⟩
/-- slices.Delete[[]hurdle/dirs.entry,hurdle/dirs.entry] -/
def c_slices_Delete_dirs_entry_dirs_entry (F : Nat → FuncId) (Ty : Nat → TypeId) : IFunc := ⟨33, [.tmp 6],
 .seq (.ops [⟨some 6, .move (.const (.slice none 0 0)), none⟩])
 (.seq (.ops [⟨some 8, .move (.tmp 0), none⟩,
 ⟨some 9, .move (.tmp 1), none⟩,
 ⟨some 10, .move (.tmp 2), none⟩,
 ⟨some 11, .move (.tmp 0), none⟩,
 ⟨some 12, .lenSl (.tmp 11), none⟩,
 ⟨some 13, .sliceSl 2 (.tmp 8) (some (.tmp 9)) (some (.tmp 10)) (some (.tmp 12)), none⟩])
 (.seq (.seq (.ops [⟨some 14, .move (.tmp 1), none⟩,
 ⟨some 15, .move (.tmp 2), none⟩,
 ⟨some 16, .bin .eql (.tmp 14) (.tmp 15), none⟩])
 (.cond (.tmp 16)
 (.seq (.ops [⟨some 17, .move (.tmp 0), none⟩,
 ⟨some 6, .move (.tmp 17), none⟩])
 (.ret))
 (.skip)))
 (.seq (.ops [⟨some 18, .move (.tmp 0), none⟩,
 ⟨some 19, .lenSl (.tmp 18), none⟩,
 ⟨some 7, .move (.tmp 19), none⟩])
 (.seq (.draw [(⟨some 20, .move (.tmp 0), none⟩, []),
 (⟨some 21, .move (.tmp 1), none⟩, []),
 (⟨some 22, .sliceSl 2 (.tmp 20) none (some (.tmp 21)) none, none⟩, []),
 (⟨some 23, .move (.tmp 0), none⟩, []),
 (⟨some 24, .move (.tmp 2), none⟩, []),
 (⟨some 25, .sliceSl 2 (.tmp 23) (some (.tmp 24)) none none, none⟩, []),
 (⟨some 26, .append 2 24 (.tmp 22) (.tmp 25), none⟩, []),
 (⟨some 0, .move (.tmp 26), none⟩, [])])
 (.seq (.ops [⟨some 27, .move (.tmp 0), none⟩,
 ⟨some 28, .move (.tmp 0), none⟩,
 ⟨some 29, .lenSl (.tmp 28), none⟩,
 ⟨some 30, .move (.tmp 7), none⟩,
 ⟨some 31, .sliceSl 2 (.tmp 27) (some (.tmp 29)) (some (.tmp 30)) none, none⟩,
 ⟨none, .clearSl [.string ⟨#[]⟩, .int .i64 0] (.tmp 31), none⟩])
 (.seq (.ops [⟨some 32, .move (.tmp 0), none⟩,
 ⟨some 6, .move (.tmp 32), none⟩])
 (.ret)))))))⟩
/-- A context has these functions. -/
structure HasDirs (c : Ctx) : Prop where
 dirs_New : c.IP (c.F 204) = some (c_dirs_New c.F c.Ty)
 dirs_Dir_find : c.IP (c.F 205) = some (c_dirs_Dir_find c.F c.Ty)
 dirs_Dir_find_F1 : c.IP (c.F 206) = some (c_dirs_Dir_find_F1 c.F c.Ty)
 dirs_search_dirs_entry_string : c.IP (c.F 207) = some (c_dirs_search_dirs_entry_string c.F c.Ty)
 dirs_Name : c.IP (c.F 208) = some (c_dirs_Name c.F c.Ty)
 strings_IndexByte : c.IP (c.F 209) = some (c_strings_IndexByte c.F c.Ty)
 internal_stringslite_IndexByte : c.IP (c.F 210) = some (c_internal_stringslite_IndexByte c.F c.Ty)
 dirs_Dir_Add : c.IP (c.F 211) = some (c_dirs_Dir_Add c.F c.Ty)
 dirs_Dir_Remove : c.IP (c.F 212) = some (c_dirs_Dir_Remove c.F c.Ty)
 dirs_Dir_Look : c.IP (c.F 213) = some (c_dirs_Dir_Look c.F c.Ty)
 dirs_Dir_List : c.IP (c.F 214) = some (c_dirs_Dir_List c.F c.Ty)
 dirs_Dir_Len : c.IP (c.F 215) = some (c_dirs_Dir_Len c.F c.Ty)
 dirs_Dir_Text : c.IP (c.F 216) = some (c_dirs_Dir_Text c.F c.Ty)
 dirs_Read : c.IP (c.F 217) = some (c_dirs_Read c.F c.Ty)
 slices_Insert_dirs_entry_dirs_entry : c.IP (c.F 218) = some (c_slices_Insert_dirs_entry_dirs_entry c.F c.Ty)
 slices_Delete_dirs_entry_dirs_entry : c.IP (c.F 219) = some (c_slices_Delete_dirs_entry_dirs_entry c.F c.Ty)

end Go.Proofs.YtfegliplajdgmaaI
