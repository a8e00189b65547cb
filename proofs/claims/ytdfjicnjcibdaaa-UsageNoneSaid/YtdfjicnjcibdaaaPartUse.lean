/- PRINTED by gen.py (this session's own): the intermediate form of some functions, and a context's having them. -/
import Derived.Test.YtdfjicnjcibdaaaIdealZ
namespace Go.Proofs.YtdfjicnjcibdaaaI
set_option linter.unusedSimpArgs false
set_option linter.unusedVariables false
open Go

/-- hurdle/usage.New -/
abbrev n_usage_New : Nat := 237
/-- (*hurdle/usage.Usage).find -/
abbrev n_usage_Usage_find : Nat := 238
/-- (*hurdle/usage.Usage).find$1 -/
abbrev n_usage_Usage_find_F1 : Nat := 239
/-- hurdle/usage.may -/
abbrev n_usage_may : Nat := 240
/-- hurdle/usage.errno -/
abbrev n_usage_errno : Nat := 241
/-- (*hurdle/usage.Usage).add -/
abbrev n_usage_Usage_add : Nat := 242
/-- (*hurdle/usage.Usage).Add -/
abbrev n_usage_Usage_Add : Nat := 243
/-- (*hurdle/usage.Usage).dead -/
abbrev n_usage_Usage_dead : Nat := 244
/-- (*hurdle/usage.Usage).Dead -/
abbrev n_usage_Usage_Dead : Nat := 245
/-- (*hurdle/usage.Usage).Drop -/
abbrev n_usage_Usage_Drop : Nat := 246
/-- hurdle/usage.Score -/
abbrev n_usage_Score : Nat := 247
/-- (*hurdle/usage.Usage).Pick -/
abbrev n_usage_Usage_Pick : Nat := 248
/-- (*hurdle/usage.Usage).Empty -/
abbrev n_usage_Usage_Empty : Nat := 249
/-- (*hurdle/usage.Usage).All -/
abbrev n_usage_Usage_All : Nat := 250
/-- (*hurdle/usage.Usage).Live -/
abbrev n_usage_Usage_Live : Nat := 251
/-- slices.Insert[[]hurdle/api.Use,hurdle/api.Use] -/
abbrev n_slices_Insert_api_Use_api_Use : Nat := 252
/-- slices.Delete[[]hurdle/api.Use,hurdle/api.Use] -/
abbrev n_slices_Delete_api_Use_api_Use : Nat := 253
/-- slices.Clone[[]hurdle/api.Use,hurdle/api.Use] -/
abbrev n_slices_Clone_api_Use_api_Use : Nat := 254
/-- slices.BinarySearchFunc[[]hurdle/api.Use,hurdle/api.Use,int] -/
abbrev n_slices_BinarySearchFunc_api_Use_api_Use_int : Nat := 255
/-- hurdle/usage.New -/
def c_usage_New (F : Nat → FuncId) (Ty : Nat → TypeId) : IFunc := ⟨3, [.tmp 0],
 .seq (.ops [⟨some 0, .move (.const (.pointer none)), none⟩])
 (.seq (.ops [⟨some 1, .build [.slice none 0 0] [], none⟩,
 ⟨some 2, .box (.tmp 1), none⟩,
 ⟨some 0, .move (.tmp 2), none⟩])
 (.ret))⟩
/-- (*hurdle/usage.Usage).find -/
def c_usage_Usage_find (F : Nat → FuncId) (Ty : Nat → TypeId) : IFunc := ⟨14, [.tmp 4, .tmp 5],
 .seq (.ops [⟨some 4, .move (.const (.int .i64 0)), none⟩,
 ⟨some 5, .move (.const (.bool false)), none⟩])
 (.seq (.ops [⟨some 6, .move (.tmp 0), none⟩,
 ⟨some 7, .nilCheck (.tmp 6), none⟩,
 ⟨some 8, .fieldAddr 0 (.tmp 7), none⟩,
 ⟨some 9, .load1 (.tmp 8), none⟩,
 ⟨some 10, .move (.tmp 1), none⟩,
 ⟨some 11, .call (F 255) [.tmp 9, .tmp 10, .func (F 239)], none⟩,
 ⟨some 12, .extract (.tmp 11) 0, none⟩,
 ⟨some 13, .extract (.tmp 11) 1, none⟩,
 ⟨some 4, .move (.tmp 12), none⟩,
 ⟨some 5, .move (.tmp 13), none⟩])
 (.ret))⟩
/-- (*hurdle/usage.Usage).find$1 -/
def c_usage_Usage_find_F1 (F : Nat → FuncId) (Ty : Nat → TypeId) : IFunc := ⟨15, [.tmp 4],
 .seq (.ops [⟨some 2, .box (.tmp 0), none⟩,
 ⟨some 4, .move (.const (.int .i64 0)), none⟩])
 (.seq (.block 0 (.seq (.ops [⟨some 6, .fieldAddr 0 (.tmp 2), none⟩,
 ⟨some 7, .load1 (.tmp 6), none⟩,
 ⟨some 8, .move (.tmp 1), none⟩,
 ⟨some 9, .bin .lss (.tmp 7) (.tmp 8), none⟩,
 ⟨some 5, .move (.tmp 9), none⟩])
 (.cond (.tmp 5)
 (.seq (.ops [⟨some 4, .move (.const (.int .i64 (-1))), none⟩])
 (.ret))
 (.seq (.ops [⟨some 11, .fieldAddr 0 (.tmp 2), none⟩,
 ⟨some 12, .load1 (.tmp 11), none⟩,
 ⟨some 13, .move (.tmp 1), none⟩,
 ⟨some 14, .bin .gtr (.tmp 12) (.tmp 13), none⟩,
 ⟨some 10, .move (.tmp 14), none⟩])
 (.cond (.tmp 10)
 (.seq (.ops [⟨some 4, .move (.const (.int .i64 1)), none⟩])
 (.ret))
 (.skip))))))
 (.seq (.ops [⟨some 4, .move (.const (.int .i64 0)), none⟩])
 (.ret)))⟩
/-- hurdle/usage.may -/
def c_usage_may (F : Nat → FuncId) (Ty : Nat → TypeId) : IFunc := ⟨33, [.tmp 2],
 .seq (.ops [⟨some 1, .box (.tmp 0), none⟩,
 ⟨some 2, .move (.const (.bool false)), none⟩])
 (.seq (.ops [⟨some 3, .fieldAddr 1 (.tmp 1), none⟩,
 ⟨some 4, .load1 (.tmp 3), none⟩,
 ⟨some 5, .bin .geq (.tmp 4) (.const (.int .i64 1)), none⟩,
 ⟨some 6, .move (.tmp 5), none⟩,
 ⟨some 7, .fieldAddr 1 (.tmp 1), some (6, true)⟩,
 ⟨some 8, .load1 (.tmp 7), some (6, true)⟩,
 ⟨some 9, .bin .leq (.tmp 8) (.const (.int .i64 65536)), some (6, true)⟩,
 ⟨some 10, .pick (.tmp 6) (.tmp 9) (.const (.bool false)), none⟩,
 ⟨some 11, .move (.tmp 10), none⟩,
 ⟨some 12, .fieldAddr 2 (.tmp 1), some (11, true)⟩,
 ⟨some 13, .load1 (.tmp 12), some (11, true)⟩,
 ⟨some 14, .bin .geq (.tmp 13) (.const (.int .i64 0)), some (11, true)⟩,
 ⟨some 15, .pick (.tmp 11) (.tmp 14) (.const (.bool false)), none⟩,
 ⟨some 16, .move (.tmp 15), none⟩,
 ⟨some 17, .fieldAddr 2 (.tmp 1), some (16, true)⟩,
 ⟨some 18, .load1 (.tmp 17), some (16, true)⟩,
 ⟨some 19, .fieldAddr 1 (.tmp 1), some (16, true)⟩,
 ⟨some 20, .load1 (.tmp 19), some (16, true)⟩,
 ⟨some 21, .bin .leq (.tmp 18) (.tmp 20), some (16, true)⟩,
 ⟨some 22, .pick (.tmp 16) (.tmp 21) (.const (.bool false)), none⟩,
 ⟨some 23, .move (.tmp 22), none⟩,
 ⟨some 24, .fieldAddr 3 (.tmp 1), some (23, true)⟩,
 ⟨some 25, .load1 (.tmp 24), some (23, true)⟩,
 ⟨some 26, .bin .geq (.tmp 25) (.const (.int .i64 0)), some (23, true)⟩,
 ⟨some 27, .pick (.tmp 23) (.tmp 26) (.const (.bool false)), none⟩,
 ⟨some 28, .move (.tmp 27), none⟩,
 ⟨some 29, .fieldAddr 3 (.tmp 1), some (28, true)⟩,
 ⟨some 30, .load1 (.tmp 29), some (28, true)⟩,
 ⟨some 31, .bin .leq (.tmp 30) (.const (.int .i64 1099511627776)), some (28, true)⟩,
 ⟨some 32, .pick (.tmp 28) (.tmp 31) (.const (.bool false)), none⟩,
 ⟨some 2, .move (.tmp 32), none⟩])
 (.ret))⟩
/-- hurdle/usage.errno -/
def c_usage_errno (F : Nat → FuncId) (Ty : Nat → TypeId) : IFunc := ⟨17, [.tmp 2],
 .seq (.ops [⟨some 2, .move (.const (.int .i64 0)), none⟩])
 (.seq (.seq (.ops [⟨some 5, .move (.tmp 0), none⟩,
 ⟨some 6, .build [.int .i64 0] [], none⟩,
 ⟨some 7, .mkIface (Ty 6) (.tmp 6), none⟩,
 ⟨some 8, .call (F 256) [.tmp 5, .tmp 7], none⟩,
 ⟨some 9, .un .not (.tmp 8), none⟩])
 (.cond (.tmp 9)
 (.seq (.ops [⟨some 2, .move (.const (.int .i64 0)), none⟩])
 (.ret))
 (.skip)))
 (.seq (.ops [⟨some 11, .move (.tmp 0), none⟩,
 ⟨some 12, .assertT (Ty 6) (.agg #[.int .i64 0]) true (.tmp 11), none⟩,
 ⟨some 10, .move (.tmp 12), none⟩,
 ⟨some 13, .extract (.tmp 10) 0, none⟩,
 ⟨some 14, .extract (.tmp 10) 1, none⟩,
 ⟨some 3, .alloc [.int .i64 0], none⟩,
 ⟨none, .store 1 (.tmp 3) (.tmp 13), none⟩,
 ⟨some 4, .move (.tmp 14), none⟩])
 (.seq (.ops [⟨some 15, .fieldAddr 0 (.tmp 3), none⟩,
 ⟨some 16, .load1 (.tmp 15), none⟩,
 ⟨some 2, .move (.tmp 16), none⟩])
 (.ret))))⟩
/-- (*hurdle/usage.Usage).add -/
def c_usage_Usage_add (F : Nat → FuncId) (Ty : Nat → TypeId) : IFunc := ⟨47, [.tmp 4],
 .seq (.ops [⟨some 3, .box (.tmp 1), none⟩,
 ⟨some 4, .move (.const (.nilIface)), none⟩])
 (.seq (.seq (.ops [⟨some 7, .move (.tmp 0), none⟩,
 ⟨some 8, .eqNil 0 false (.tmp 7), none⟩,
 ⟨some 9, .move (.tmp 8), none⟩,
 ⟨some 10, .fieldAddr 0 (.tmp 3), some (9, false)⟩,
 ⟨some 11, .load1 (.tmp 10), some (9, false)⟩,
 ⟨some 12, .bin .lss (.tmp 11) (.const (.int .i64 0)), some (9, false)⟩,
 ⟨some 13, .pick (.tmp 9) (.const (.bool true)) (.tmp 12), none⟩,
 ⟨some 14, .move (.tmp 13), none⟩,
 ⟨some 15, .fieldAddr 0 (.tmp 3), some (14, false)⟩,
 ⟨some 16, .load1 (.tmp 15), some (14, false)⟩,
 ⟨some 17, .bin .geq (.tmp 16) (.const (.int .i64 4096)), some (14, false)⟩,
 ⟨some 18, .pick (.tmp 14) (.const (.bool true)) (.tmp 17), none⟩,
 ⟨some 19, .move (.tmp 18), none⟩,
 ⟨some 20, .loadN 4 (.tmp 3), some (19, false)⟩,
 ⟨some 21, .call (F 240) [.tmp 20], some (19, false)⟩,
 ⟨some 22, .un .not (.tmp 21), some (19, false)⟩,
 ⟨some 23, .pick (.tmp 19) (.const (.bool true)) (.tmp 22), none⟩])
 (.cond (.tmp 23)
 (.seq (.ops [⟨some 24, .build [.int .i64 0] [((0, 1), .const (.int .i64 1))], none⟩,
 ⟨some 25, .mkIface (Ty 6) (.tmp 24), none⟩,
 ⟨some 4, .move (.tmp 25), none⟩])
 (.ret))
 (.skip)))
 (.seq (.ops [⟨some 27, .move (.tmp 0), none⟩,
 ⟨some 28, .fieldAddr 0 (.tmp 3), none⟩,
 ⟨some 29, .load1 (.tmp 28), none⟩,
 ⟨some 30, .call (F 238) [.tmp 27, .tmp 29], none⟩,
 ⟨some 26, .move (.tmp 30), none⟩,
 ⟨some 31, .extract (.tmp 26) 0, none⟩,
 ⟨some 32, .extract (.tmp 26) 1, none⟩,
 ⟨some 5, .move (.tmp 31), none⟩,
 ⟨some 6, .move (.tmp 32), none⟩])
 (.seq (.seq (.ops [⟨some 33, .move (.tmp 6), none⟩])
 (.cond (.tmp 33)
 (.seq (.ops [⟨some 34, .build [.int .i64 0] [((0, 1), .const (.int .i64 6))], none⟩,
 ⟨some 35, .mkIface (Ty 6) (.tmp 34), none⟩,
 ⟨some 4, .move (.tmp 35), none⟩])
 (.ret))
 (.skip)))
 (.seq (.draw [(⟨some 36, .move (.tmp 0), none⟩, []),
 (⟨some 37, .move (.tmp 0), none⟩, []),
 (⟨some 38, .nilCheck (.tmp 37), none⟩, []),
 (⟨some 39, .fieldAddr 0 (.tmp 38), none⟩, []),
 (⟨some 40, .load1 (.tmp 39), none⟩, []),
 (⟨some 41, .move (.tmp 5), none⟩, []),
 (⟨some 42, .loadN 4 (.tmp 3), none⟩, []),
 (⟨some 43, .buildSlice 1 [.int .i64 0, .int .i64 0, .int .i64 0, .int .i64 0] [((0, 4), .tmp 42)], none⟩, []),
 (⟨some 44, .call (F 252) [.tmp 40, .tmp 41, .tmp 43], none⟩, []),
 (⟨some 45, .nilCheck (.tmp 36), none⟩, []),
 (⟨some 46, .fieldAddr 0 (.tmp 45), none⟩, []),
 (⟨none, .store 1 (.tmp 46) (.tmp 44), none⟩, [])])
 (.seq (.ops [⟨some 4, .move (.const (.nilIface)), none⟩])
 (.ret))))))⟩
/-- (*hurdle/usage.Usage).Add -/
def c_usage_Usage_Add (F : Nat → FuncId) (Ty : Nat → TypeId) : IFunc := ⟨19, [.tmp 10],
 .seq (.ops [⟨some 10, .move (.const (.int .i64 0)), none⟩])
 (.seq (.ops [⟨some 11, .move (.tmp 0), none⟩,
 ⟨some 12, .move (.tmp 1), none⟩,
 ⟨some 13, .move (.tmp 2), none⟩,
 ⟨some 14, .move (.tmp 3), none⟩,
 ⟨some 15, .move (.tmp 4), none⟩,
 ⟨some 16, .build [.int .i64 0, .int .i64 0, .int .i64 0, .int .i64 0] [((0, 1), .tmp 12), ((1, 1), .tmp 13), ((2, 1), .tmp 14), ((3, 1), .tmp 15)], none⟩,
 ⟨some 17, .call (F 242) [.tmp 11, .tmp 16], none⟩,
 ⟨some 18, .call (F 241) [.tmp 17], none⟩,
 ⟨some 10, .move (.tmp 18), none⟩])
 (.ret))⟩
/-- (*hurdle/usage.Usage).dead -/
def c_usage_Usage_dead (F : Nat → FuncId) (Ty : Nat → TypeId) : IFunc := ⟨53, [.tmp 6],
 .seq (.ops [⟨some 6, .move (.const (.nilIface)), none⟩])
 (.seq (.seq (.ops [⟨some 9, .move (.tmp 0), none⟩,
 ⟨some 10, .eqNil 0 false (.tmp 9), none⟩,
 ⟨some 11, .move (.tmp 10), none⟩,
 ⟨some 12, .move (.tmp 2), some (11, false)⟩,
 ⟨some 13, .bin .lss (.tmp 12) (.const (.int .i64 0)), some (11, false)⟩,
 ⟨some 14, .pick (.tmp 11) (.const (.bool true)) (.tmp 13), none⟩])
 (.cond (.tmp 14)
 (.seq (.ops [⟨some 15, .build [.int .i64 0] [((0, 1), .const (.int .i64 1))], none⟩,
 ⟨some 16, .mkIface (Ty 6) (.tmp 15), none⟩,
 ⟨some 6, .move (.tmp 16), none⟩])
 (.ret))
 (.skip)))
 (.seq (.ops [⟨some 18, .move (.tmp 0), none⟩,
 ⟨some 19, .move (.tmp 1), none⟩,
 ⟨some 20, .call (F 238) [.tmp 18, .tmp 19], none⟩,
 ⟨some 17, .move (.tmp 20), none⟩,
 ⟨some 21, .extract (.tmp 17) 0, none⟩,
 ⟨some 22, .extract (.tmp 17) 1, none⟩,
 ⟨some 7, .move (.tmp 21), none⟩,
 ⟨some 8, .move (.tmp 22), none⟩])
 (.seq (.block 0 (.seq (.ops [⟨some 24, .move (.tmp 8), none⟩,
 ⟨some 25, .un .not (.tmp 24), none⟩,
 ⟨some 23, .move (.tmp 25), none⟩])
 (.cond (.tmp 23)
 (.seq (.ops [⟨some 26, .build [.int .i64 0] [((0, 1), .const (.int .i64 7))], none⟩,
 ⟨some 27, .mkIface (Ty 6) (.tmp 26), none⟩,
 ⟨some 6, .move (.tmp 27), none⟩])
 (.ret))
 (.seq (.ops [⟨some 29, .move (.tmp 2), none⟩,
 ⟨some 30, .move (.tmp 0), none⟩,
 ⟨some 31, .nilCheck (.tmp 30), none⟩,
 ⟨some 32, .fieldAddr 0 (.tmp 31), none⟩,
 ⟨some 33, .load1 (.tmp 32), none⟩,
 ⟨some 34, .move (.tmp 7), none⟩,
 ⟨some 35, .idxSl 4 (.tmp 33) (.tmp 34), none⟩,
 ⟨some 36, .fieldAddr 2 (.tmp 35), none⟩,
 ⟨some 37, .load1 (.tmp 36), none⟩,
 ⟨some 38, .bin .gtr (.tmp 29) (.tmp 37), none⟩,
 ⟨some 28, .move (.tmp 38), none⟩])
 (.cond (.tmp 28)
 (.seq (.ops [⟨some 39, .build [.int .i64 0] [((0, 1), .const (.int .i64 2))], none⟩,
 ⟨some 40, .mkIface (Ty 6) (.tmp 39), none⟩,
 ⟨some 6, .move (.tmp 40), none⟩])
 (.ret))
 (.skip))))))
 (.seq (.ops [⟨some 41, .move (.tmp 0), none⟩,
 ⟨some 42, .nilCheck (.tmp 41), none⟩,
 ⟨some 43, .fieldAddr 0 (.tmp 42), none⟩,
 ⟨some 44, .load1 (.tmp 43), none⟩,
 ⟨some 45, .move (.tmp 7), none⟩,
 ⟨some 46, .idxSl 4 (.tmp 44) (.tmp 45), none⟩,
 ⟨some 47, .fieldAddr 2 (.tmp 46), none⟩,
 ⟨some 48, .load1 (.tmp 47), none⟩,
 ⟨some 49, .move (.tmp 2), none⟩,
 ⟨some 50, .bin .sub (.tmp 48) (.tmp 49), none⟩,
 ⟨some 51, .idxSl 4 (.tmp 44) (.tmp 45), none⟩,
 ⟨some 52, .fieldAddr 2 (.tmp 51), none⟩,
 ⟨none, .store 1 (.tmp 52) (.tmp 50), none⟩])
 (.seq (.ops [⟨some 6, .move (.const (.nilIface)), none⟩])
 (.ret))))))⟩
/-- (*hurdle/usage.Usage).Dead -/
def c_usage_Usage_Dead (F : Nat → FuncId) (Ty : Nat → TypeId) : IFunc := ⟨12, [.tmp 6],
 .seq (.ops [⟨some 6, .move (.const (.int .i64 0)), none⟩])
 (.seq (.ops [⟨some 7, .move (.tmp 0), none⟩,
 ⟨some 8, .move (.tmp 1), none⟩,
 ⟨some 9, .move (.tmp 2), none⟩,
 ⟨some 10, .call (F 244) [.tmp 7, .tmp 8, .tmp 9], none⟩,
 ⟨some 11, .call (F 241) [.tmp 10], none⟩,
 ⟨some 6, .move (.tmp 11), none⟩])
 (.ret))⟩
/-- (*hurdle/usage.Usage).Drop -/
def c_usage_Usage_Drop (F : Nat → FuncId) (Ty : Nat → TypeId) : IFunc := ⟨28, [.tmp 4],
 .seq (.ops [⟨some 4, .move (.const (.bool false)), none⟩])
 (.seq (.seq (.ops [⟨some 7, .move (.tmp 0), none⟩,
 ⟨some 8, .eqNil 0 false (.tmp 7), none⟩])
 (.cond (.tmp 8)
 (.seq (.ops [⟨some 4, .move (.const (.bool false)), none⟩])
 (.ret))
 (.skip)))
 (.seq (.ops [⟨some 10, .move (.tmp 0), none⟩,
 ⟨some 11, .move (.tmp 1), none⟩,
 ⟨some 12, .call (F 238) [.tmp 10, .tmp 11], none⟩,
 ⟨some 9, .move (.tmp 12), none⟩,
 ⟨some 13, .extract (.tmp 9) 0, none⟩,
 ⟨some 14, .extract (.tmp 9) 1, none⟩,
 ⟨some 5, .move (.tmp 13), none⟩,
 ⟨some 6, .move (.tmp 14), none⟩])
 (.seq (.seq (.ops [⟨some 15, .move (.tmp 6), none⟩])
 (.cond (.tmp 15)
 (.ops [⟨some 16, .move (.tmp 0), none⟩,
 ⟨some 17, .move (.tmp 0), none⟩,
 ⟨some 18, .nilCheck (.tmp 17), none⟩,
 ⟨some 19, .fieldAddr 0 (.tmp 18), none⟩,
 ⟨some 20, .load1 (.tmp 19), none⟩,
 ⟨some 21, .move (.tmp 5), none⟩,
 ⟨some 22, .move (.tmp 5), none⟩,
 ⟨some 23, .bin .add (.tmp 22) (.const (.int .i64 1)), none⟩,
 ⟨some 24, .call (F 253) [.tmp 20, .tmp 21, .tmp 23], none⟩,
 ⟨some 25, .nilCheck (.tmp 16), none⟩,
 ⟨some 26, .fieldAddr 0 (.tmp 25), none⟩,
 ⟨none, .store 1 (.tmp 26) (.tmp 24), none⟩])
 (.skip)))
 (.seq (.ops [⟨some 27, .move (.tmp 6), none⟩,
 ⟨some 4, .move (.tmp 27), none⟩])
 (.ret)))))⟩
/-- hurdle/usage.Score -/
def c_usage_Score (F : Nat → FuncId) (Ty : Nat → TypeId) : IFunc := ⟨33, [.tmp 4],
 .seq (.ops [⟨some 2, .box (.tmp 0), none⟩,
 ⟨some 4, .move (.const (.int .i64 0)), none⟩])
 (.seq (.seq (.ops [⟨some 6, .loadN 4 (.tmp 2), none⟩,
 ⟨some 7, .call (F 240) [.tmp 6], none⟩,
 ⟨some 8, .un .not (.tmp 7), none⟩])
 (.cond (.tmp 8)
 (.seq (.ops [⟨some 4, .move (.const (.int .i64 0)), none⟩])
 (.ret))
 (.skip)))
 (.seq (.ops [⟨some 5, .move (.const (.int .i64 0)), none⟩])
 (.seq (.seq (.ops [⟨some 9, .move (.tmp 1), none⟩,
 ⟨some 10, .fieldAddr 3 (.tmp 2), none⟩,
 ⟨some 11, .load1 (.tmp 10), none⟩,
 ⟨some 12, .bin .gtr (.tmp 9) (.tmp 11), none⟩])
 (.cond (.tmp 12)
 (.ops [⟨some 13, .move (.tmp 1), none⟩,
 ⟨some 14, .fieldAddr 3 (.tmp 2), none⟩,
 ⟨some 15, .load1 (.tmp 14), none⟩,
 ⟨some 16, .bin .sub (.tmp 13) (.tmp 15), none⟩,
 ⟨some 17, .mxn false (.tmp 16) (.const (.int .i64 1000000)), none⟩,
 ⟨some 5, .move (.tmp 17), none⟩])
 (.skip)))
 (.seq (.ops [⟨some 18, .fieldAddr 1 (.tmp 2), none⟩,
 ⟨some 19, .load1 (.tmp 18), none⟩,
 ⟨some 20, .fieldAddr 2 (.tmp 2), none⟩,
 ⟨some 21, .load1 (.tmp 20), none⟩,
 ⟨some 22, .bin .sub (.tmp 19) (.tmp 21), none⟩,
 ⟨some 23, .move (.tmp 5), none⟩,
 ⟨some 24, .bin .add (.tmp 23) (.const (.int .i64 1)), none⟩,
 ⟨some 25, .bin .mul (.tmp 22) (.tmp 24), none⟩,
 ⟨some 26, .bin .mul (.tmp 25) (.const (.int .i64 1000)), none⟩,
 ⟨some 27, .fieldAddr 1 (.tmp 2), none⟩,
 ⟨some 28, .load1 (.tmp 27), none⟩,
 ⟨some 29, .fieldAddr 2 (.tmp 2), none⟩,
 ⟨some 30, .load1 (.tmp 29), none⟩,
 ⟨some 31, .bin .add (.tmp 28) (.tmp 30), none⟩,
 ⟨some 32, .bin .quo (.tmp 26) (.tmp 31), none⟩,
 ⟨some 4, .move (.tmp 32), none⟩])
 (.ret)))))⟩
/-- (*hurdle/usage.Usage).Pick -/
def c_usage_Usage_Pick (F : Nat → FuncId) (Ty : Nat → TypeId) : IFunc := ⟨40, [.tmp 4, .tmp 5],
 .seq (.ops [⟨some 4, .move (.const (.int .i64 0)), none⟩,
 ⟨some 5, .move (.const (.bool false)), none⟩])
 (.seq (.ops [⟨some 6, .move (.const (.int .i64 0)), none⟩,
 ⟨some 7, .move (.const (.int .i64 0)), none⟩,
 ⟨some 8, .move (.const (.bool false)), none⟩])
 (.seq (.seq (.ops [⟨some 12, .move (.tmp 0), none⟩,
 ⟨some 13, .call (F 250) [.tmp 12], none⟩,
 ⟨some 14, .lenSl (.tmp 13), none⟩,
 ⟨some 15, .move (.const (.int .i64 0)), none⟩])
 (.block 0 (.loop (.seq (.ops [⟨some 16, .bin .lss (.tmp 15) (.tmp 14), none⟩])
 (.seq (.cond (.tmp 16)
 (.skip)
 (.exit 0))
 (.seq (.block 1 (.seq (.ops [⟨some 17, .idxSl 4 (.tmp 13) (.tmp 15), none⟩,
 ⟨some 18, .loadN 4 (.tmp 17), none⟩,
 ⟨some 10, .alloc [.int .i64 0, .int .i64 0, .int .i64 0, .int .i64 0], none⟩,
 ⟨none, .store 4 (.tmp 10) (.tmp 18), none⟩])
 (.seq (.seq (.ops [⟨some 19, .fieldAddr 2 (.tmp 10), none⟩,
 ⟨some 20, .load1 (.tmp 19), none⟩,
 ⟨some 21, .fieldAddr 1 (.tmp 10), none⟩,
 ⟨some 22, .load1 (.tmp 21), none⟩,
 ⟨some 23, .bin .eql (.tmp 20) (.tmp 22), none⟩])
 (.cond (.tmp 23)
 (.exit 1)
 (.skip)))
 (.seq (.ops [⟨some 24, .loadN 4 (.tmp 10), none⟩,
 ⟨some 25, .move (.tmp 1), none⟩,
 ⟨some 26, .call (F 247) [.tmp 24, .tmp 25], none⟩,
 ⟨some 11, .move (.tmp 26), none⟩])
 (.seq (.ops [⟨some 27, .move (.tmp 8), none⟩,
 ⟨some 28, .un .not (.tmp 27), none⟩,
 ⟨some 29, .move (.tmp 28), none⟩,
 ⟨some 30, .move (.tmp 11), some (29, false)⟩,
 ⟨some 31, .move (.tmp 6), some (29, false)⟩,
 ⟨some 32, .bin .gtr (.tmp 30) (.tmp 31), some (29, false)⟩,
 ⟨some 33, .pick (.tmp 29) (.const (.bool true)) (.tmp 32), none⟩])
 (.cond (.tmp 33)
 (.draw [(⟨some 34, .move (.tmp 11), none⟩, []),
 (⟨some 35, .fieldAddr 0 (.tmp 10), none⟩, []),
 (⟨some 36, .load1 (.tmp 35), none⟩, []),
 (⟨some 6, .move (.tmp 34), none⟩, []),
 (⟨some 7, .move (.tmp 36), none⟩, []),
 (⟨some 8, .move (.const (.bool true)), none⟩, [])])
 (.skip)))))))
 (.ops [⟨some 37, .bin .add (.tmp 15) (.const (.int .i64 1)), none⟩,
 ⟨some 15, .move (.tmp 37), none⟩])))))))
 (.seq (.ops [⟨some 38, .move (.tmp 7), none⟩,
 ⟨some 39, .move (.tmp 8), none⟩,
 ⟨some 4, .move (.tmp 38), none⟩,
 ⟨some 5, .move (.tmp 39), none⟩])
 (.ret))))⟩
/-- (*hurdle/usage.Usage).Empty -/
def c_usage_Usage_Empty (F : Nat → FuncId) (Ty : Nat → TypeId) : IFunc := ⟨23, [.tmp 2],
 .seq (.ops [⟨some 2, .move (.const (.slice none 0 0)), none⟩])
 (.seq (.ops [⟨some 3, .move (.const (.slice none 0 0)), none⟩])
 (.seq (.seq (.ops [⟨some 6, .move (.tmp 0), none⟩,
 ⟨some 7, .call (F 250) [.tmp 6], none⟩,
 ⟨some 8, .lenSl (.tmp 7), none⟩,
 ⟨some 9, .move (.const (.int .i64 0)), none⟩])
 (.block 0 (.loop (.seq (.ops [⟨some 10, .bin .lss (.tmp 9) (.tmp 8), none⟩])
 (.seq (.cond (.tmp 10)
 (.skip)
 (.exit 0))
 (.seq (.block 1 (.seq (.ops [⟨some 11, .idxSl 4 (.tmp 7) (.tmp 9), none⟩,
 ⟨some 12, .loadN 4 (.tmp 11), none⟩,
 ⟨some 5, .alloc [.int .i64 0, .int .i64 0, .int .i64 0, .int .i64 0], none⟩,
 ⟨none, .store 4 (.tmp 5) (.tmp 12), none⟩])
 (.seq (.ops [⟨some 13, .fieldAddr 2 (.tmp 5), none⟩,
 ⟨some 14, .load1 (.tmp 13), none⟩,
 ⟨some 15, .bin .eql (.tmp 14) (.const (.int .i64 0)), none⟩])
 (.cond (.tmp 15)
 (.ops [⟨some 16, .move (.tmp 3), none⟩,
 ⟨some 17, .fieldAddr 0 (.tmp 5), none⟩,
 ⟨some 18, .load1 (.tmp 17), none⟩,
 ⟨some 19, .buildSlice 1 [.int .i64 0] [((0, 1), .tmp 18)], none⟩,
 ⟨some 20, .append 1 8 (.tmp 16) (.tmp 19), none⟩,
 ⟨some 3, .move (.tmp 20), none⟩])
 (.skip)))))
 (.ops [⟨some 21, .bin .add (.tmp 9) (.const (.int .i64 1)), none⟩,
 ⟨some 9, .move (.tmp 21), none⟩])))))))
 (.seq (.ops [⟨some 22, .move (.tmp 3), none⟩,
 ⟨some 2, .move (.tmp 22), none⟩])
 (.ret))))⟩
/-- (*hurdle/usage.Usage).All -/
def c_usage_Usage_All (F : Nat → FuncId) (Ty : Nat → TypeId) : IFunc := ⟨10, [.tmp 2],
 .seq (.ops [⟨some 2, .move (.const (.slice none 0 0)), none⟩])
 (.seq (.seq (.ops [⟨some 3, .move (.tmp 0), none⟩,
 ⟨some 4, .eqNil 0 false (.tmp 3), none⟩])
 (.cond (.tmp 4)
 (.seq (.ops [⟨some 2, .move (.const (.slice none 0 0)), none⟩])
 (.ret))
 (.skip)))
 (.seq (.ops [⟨some 5, .move (.tmp 0), none⟩,
 ⟨some 6, .nilCheck (.tmp 5), none⟩,
 ⟨some 7, .fieldAddr 0 (.tmp 6), none⟩,
 ⟨some 8, .load1 (.tmp 7), none⟩,
 ⟨some 9, .call (F 254) [.tmp 8], none⟩,
 ⟨some 2, .move (.tmp 9), none⟩])
 (.ret)))⟩
/-- (*hurdle/usage.Usage).Live -/
def c_usage_Usage_Live (F : Nat → FuncId) (Ty : Nat → TypeId) : IFunc := ⟨19, [.tmp 2],
 .seq (.ops [⟨some 2, .move (.const (.int .i64 0)), none⟩])
 (.seq (.ops [⟨some 3, .move (.const (.int .i64 0)), none⟩])
 (.seq (.seq (.ops [⟨some 6, .move (.tmp 0), none⟩,
 ⟨some 7, .call (F 250) [.tmp 6], none⟩,
 ⟨some 8, .lenSl (.tmp 7), none⟩,
 ⟨some 9, .move (.const (.int .i64 0)), none⟩])
 (.block 0 (.loop (.seq (.ops [⟨some 10, .bin .lss (.tmp 9) (.tmp 8), none⟩])
 (.seq (.cond (.tmp 10)
 (.skip)
 (.exit 0))
 (.seq (.block 1 (.seq (.ops [⟨some 11, .idxSl 4 (.tmp 7) (.tmp 9), none⟩,
 ⟨some 12, .loadN 4 (.tmp 11), none⟩,
 ⟨some 5, .alloc [.int .i64 0, .int .i64 0, .int .i64 0, .int .i64 0], none⟩,
 ⟨none, .store 4 (.tmp 5) (.tmp 12), none⟩])
 (.ops [⟨some 13, .move (.tmp 3), none⟩,
 ⟨some 14, .fieldAddr 2 (.tmp 5), none⟩,
 ⟨some 15, .load1 (.tmp 14), none⟩,
 ⟨some 16, .bin .add (.tmp 13) (.tmp 15), none⟩,
 ⟨some 3, .move (.tmp 16), none⟩])))
 (.ops [⟨some 17, .bin .add (.tmp 9) (.const (.int .i64 1)), none⟩,
 ⟨some 9, .move (.tmp 17), none⟩])))))))
 (.seq (.ops [⟨some 18, .move (.tmp 3), none⟩,
 ⟨some 2, .move (.tmp 18), none⟩])
 (.ret))))⟩
/-- slices.Insert[[]hurdle/api.Use,hurdle/api.Use] -/
def c_slices_Insert_api_Use_api_Use (F : Nat → FuncId) (Ty : Nat → TypeId) : IFunc := ⟨95, [.tmp 6],
 .seq (.ops [⟨some 6, .move (.const (.slice none 0 0)), none⟩])
 (.seq (.ops [⟨some 10, .move (.tmp 0), none⟩,
 ⟨some 11, .move (.tmp 1), none⟩,
 ⟨some 12, .sliceSl 4 (.tmp 10) (some (.tmp 11)) none none, none⟩])
 (.seq (.ops [⟨some 13, .move (.tmp 2), none⟩,
 ⟨some 14, .lenSl (.tmp 13), none⟩,
 ⟨some 7, .move (.tmp 14), none⟩])
 (.seq (.seq (.ops [⟨some 15, .move (.tmp 7), none⟩,
 ⟨some 16, .bin .eql (.tmp 15) (.const (.int .i64 0)), none⟩])
 (.cond (.tmp 16)
 (.seq (.ops [⟨some 17, .move (.tmp 0), none⟩,
 ⟨some 6, .move (.tmp 17), none⟩])
 (.ret))
 (.skip)))
 (.seq (.ops [⟨some 18, .move (.tmp 0), none⟩,
 ⟨some 19, .lenSl (.tmp 18), none⟩,
 ⟨some 8, .move (.tmp 19), none⟩])
 (.seq (.seq (.ops [⟨some 20, .move (.tmp 1), none⟩,
 ⟨some 21, .move (.tmp 8), none⟩,
 ⟨some 22, .bin .eql (.tmp 20) (.tmp 21), none⟩])
 (.cond (.tmp 22)
 (.seq (.ops [⟨some 23, .move (.tmp 0), none⟩,
 ⟨some 24, .move (.tmp 2), none⟩,
 ⟨some 25, .append 4 32 (.tmp 23) (.tmp 24), none⟩,
 ⟨some 6, .move (.tmp 25), none⟩])
 (.ret))
 (.skip)))
 (.seq (.seq (.ops [⟨some 26, .move (.tmp 8), none⟩,
 ⟨some 27, .move (.tmp 7), none⟩,
 ⟨some 28, .bin .add (.tmp 26) (.tmp 27), none⟩,
 ⟨some 29, .move (.tmp 0), none⟩,
 ⟨some 30, .capSl (.tmp 29), none⟩,
 ⟨some 31, .bin .gtr (.tmp 28) (.tmp 30), none⟩])
 (.cond (.tmp 31)
 (.seq (.ops [⟨some 32, .move (.tmp 0), none⟩,
 ⟨some 33, .move (.tmp 1), none⟩,
 ⟨some 34, .sliceSl 4 (.tmp 32) none (some (.tmp 33)) none, none⟩,
 ⟨some 35, .move (.tmp 8), none⟩,
 ⟨some 36, .move (.tmp 7), none⟩,
 ⟨some 37, .bin .add (.tmp 35) (.tmp 36), none⟩,
 ⟨some 38, .move (.tmp 1), none⟩,
 ⟨some 39, .bin .sub (.tmp 37) (.tmp 38), none⟩,
 ⟨some 40, .appendZ 32 [.int .i64 0, .int .i64 0, .int .i64 0, .int .i64 0] (.tmp 34) (.tmp 39), none⟩,
 ⟨some 9, .move (.tmp 40), none⟩])
 (.seq (.ops [⟨some 41, .move (.tmp 9), none⟩,
 ⟨some 42, .move (.tmp 1), none⟩,
 ⟨some 43, .sliceSl 4 (.tmp 41) (some (.tmp 42)) none none, none⟩,
 ⟨some 44, .move (.tmp 2), none⟩,
 ⟨some 45, .copy 4 (.tmp 43) (.tmp 44), none⟩])
 (.seq (.draw [(⟨some 46, .move (.tmp 9), none⟩, []),
 (⟨some 47, .move (.tmp 1), none⟩, []),
 (⟨some 48, .move (.tmp 7), none⟩, []),
 (⟨some 49, .bin .add (.tmp 47) (.tmp 48), none⟩, []),
 (⟨some 50, .sliceSl 4 (.tmp 46) (some (.tmp 49)) none none, none⟩, []),
 (⟨some 51, .move (.tmp 0), none⟩, []),
 (⟨some 52, .move (.tmp 1), none⟩, []),
 (⟨some 53, .sliceSl 4 (.tmp 51) (some (.tmp 52)) none none, none⟩, []),
 (⟨some 54, .copy 4 (.tmp 50) (.tmp 53), none⟩, [])])
 (.seq (.ops [⟨some 55, .move (.tmp 9), none⟩,
 ⟨some 6, .move (.tmp 55), none⟩])
 (.ret)))))
 (.skip)))
 (.seq (.ops [⟨some 56, .move (.tmp 0), none⟩,
 ⟨some 57, .move (.tmp 8), none⟩,
 ⟨some 58, .move (.tmp 7), none⟩,
 ⟨some 59, .bin .add (.tmp 57) (.tmp 58), none⟩,
 ⟨some 60, .sliceSl 4 (.tmp 56) none (some (.tmp 59)) none, none⟩,
 ⟨some 0, .move (.tmp 60), none⟩])
 (.seq (.seq (.ops [⟨some 61, .move (.tmp 2), none⟩,
 ⟨some 62, .move (.tmp 0), none⟩,
 ⟨some 63, .move (.tmp 1), none⟩,
 ⟨some 64, .move (.tmp 7), none⟩,
 ⟨some 65, .bin .add (.tmp 63) (.tmp 64), none⟩,
 ⟨some 66, .sliceSl 4 (.tmp 62) (some (.tmp 65)) none none, none⟩,
 ⟨some 67, .call (F 257) [.tmp 61, .tmp 66], none⟩,
 ⟨some 68, .un .not (.tmp 67), none⟩])
 (.cond (.tmp 68)
 (.seq (.draw [(⟨some 69, .move (.tmp 0), none⟩, []),
 (⟨some 70, .move (.tmp 1), none⟩, []),
 (⟨some 71, .move (.tmp 7), none⟩, []),
 (⟨some 72, .bin .add (.tmp 70) (.tmp 71), none⟩, []),
 (⟨some 73, .sliceSl 4 (.tmp 69) (some (.tmp 72)) none none, none⟩, []),
 (⟨some 74, .move (.tmp 0), none⟩, []),
 (⟨some 75, .move (.tmp 1), none⟩, []),
 (⟨some 76, .sliceSl 4 (.tmp 74) (some (.tmp 75)) none none, none⟩, []),
 (⟨some 77, .copy 4 (.tmp 73) (.tmp 76), none⟩, [])])
 (.seq (.ops [⟨some 78, .move (.tmp 0), none⟩,
 ⟨some 79, .move (.tmp 1), none⟩,
 ⟨some 80, .sliceSl 4 (.tmp 78) (some (.tmp 79)) none none, none⟩,
 ⟨some 81, .move (.tmp 2), none⟩,
 ⟨some 82, .copy 4 (.tmp 80) (.tmp 81), none⟩])
 (.seq (.ops [⟨some 83, .move (.tmp 0), none⟩,
 ⟨some 6, .move (.tmp 83), none⟩])
 (.ret))))
 (.skip)))
 (.seq (.ops [⟨some 84, .move (.tmp 0), none⟩,
 ⟨some 85, .move (.tmp 8), none⟩,
 ⟨some 86, .sliceSl 4 (.tmp 84) (some (.tmp 85)) none none, none⟩,
 ⟨some 87, .move (.tmp 2), none⟩,
 ⟨some 88, .copy 4 (.tmp 86) (.tmp 87), none⟩])
 (.seq (.ops [⟨some 89, .move (.tmp 0), none⟩,
 ⟨some 90, .move (.tmp 1), none⟩,
 ⟨some 91, .sliceSl 4 (.tmp 89) (some (.tmp 90)) none none, none⟩,
 ⟨some 92, .move (.tmp 7), none⟩,
 ⟨some 93, .call (F 258) [.tmp 91, .tmp 92], none⟩])
 (.seq (.ops [⟨some 94, .move (.tmp 0), none⟩,
 ⟨some 6, .move (.tmp 94), none⟩])
 (.ret))))))))))))⟩
/-- slices.Delete[[]hurdle/api.Use,hurdle/api.Use] -/
def c_slices_Delete_api_Use_api_Use (F : Nat → FuncId) (Ty : Nat → TypeId) : IFunc := ⟨33, [.tmp 6],
 .seq (.ops [⟨some 6, .move (.const (.slice none 0 0)), none⟩])
 (.seq (.ops [⟨some 8, .move (.tmp 0), none⟩,
 ⟨some 9, .move (.tmp 1), none⟩,
 ⟨some 10, .move (.tmp 2), none⟩,
 ⟨some 11, .move (.tmp 0), none⟩,
 ⟨some 12, .lenSl (.tmp 11), none⟩,
 ⟨some 13, .sliceSl 4 (.tmp 8) (some (.tmp 9)) (some (.tmp 10)) (some (.tmp 12)), none⟩])
 (.seq (.seq (.ops [⟨some 14, .move (.tmp 1), none⟩,
 ⟨some 15, .move (.tmp 2), none⟩,
 ⟨some 16, .bin .eql (.tmp 14) (.tmp 15), none⟩])
 (.cond (.tmp 16)
 (.seq (.ops [⟨some 17, .move (.tmp 0), none⟩,
 ⟨some 6, .move (.tmp 17), none⟩])
 (.ret))
 (.skip)))
 (.seq (.ops [⟨some 18, .move (.tmp 0), none⟩,
 ⟨some 19, .lenSl (.tmp 18), none⟩,
 ⟨some 7, .move (.tmp 19), none⟩])
 (.seq (.draw [(⟨some 20, .move (.tmp 0), none⟩, []),
 (⟨some 21, .move (.tmp 1), none⟩, []),
 (⟨some 22, .sliceSl 4 (.tmp 20) none (some (.tmp 21)) none, none⟩, []),
 (⟨some 23, .move (.tmp 0), none⟩, []),
 (⟨some 24, .move (.tmp 2), none⟩, []),
 (⟨some 25, .sliceSl 4 (.tmp 23) (some (.tmp 24)) none none, none⟩, []),
 (⟨some 26, .append 4 32 (.tmp 22) (.tmp 25), none⟩, []),
 (⟨some 0, .move (.tmp 26), none⟩, [])])
 (.seq (.ops [⟨some 27, .move (.tmp 0), none⟩,
 ⟨some 28, .move (.tmp 0), none⟩,
 ⟨some 29, .lenSl (.tmp 28), none⟩,
 ⟨some 30, .move (.tmp 7), none⟩,
 ⟨some 31, .sliceSl 4 (.tmp 27) (some (.tmp 29)) (some (.tmp 30)) none, none⟩,
 ⟨none, .clearSl [.int .i64 0, .int .i64 0, .int .i64 0, .int .i64 0] (.tmp 31), none⟩])
 (.seq (.ops [⟨some 32, .move (.tmp 0), none⟩,
 ⟨some 6, .move (.tmp 32), none⟩])
 (.ret)))))))⟩
/-- slices.Clone[[]hurdle/api.Use,hurdle/api.Use] -/
def c_slices_Clone_api_Use_api_Use (F : Nat → FuncId) (Ty : Nat → TypeId) : IFunc := ⟨8, [.tmp 2],
 .seq (.ops [⟨some 2, .move (.const (.slice none 0 0)), none⟩])
 (.seq (.seq (.ops [⟨some 3, .move (.tmp 0), none⟩,
 ⟨some 4, .eqNil 1 false (.tmp 3), none⟩])
 (.cond (.tmp 4)
 (.seq (.ops [⟨some 2, .move (.const (.slice none 0 0)), none⟩])
 (.ret))
 (.skip)))
 (.seq (.ops [⟨some 5, .buildSlice 0 [] [], none⟩,
 ⟨some 6, .move (.tmp 0), none⟩,
 ⟨some 7, .append 4 32 (.tmp 5) (.tmp 6), none⟩,
 ⟨some 2, .move (.tmp 7), none⟩])
 (.ret)))⟩
/-- slices.BinarySearchFunc[[]hurdle/api.Use,hurdle/api.Use,int] -/
def c_slices_BinarySearchFunc_api_Use_api_Use_int (F : Nat → FuncId) (Ty : Nat → TypeId) : IFunc := ⟨49, [.tmp 6, .tmp 7],
 .seq (.ops [⟨some 6, .move (.const (.int .i64 0)), none⟩,
 ⟨some 7, .move (.const (.bool false)), none⟩])
 (.seq (.ops [⟨some 12, .move (.tmp 0), none⟩,
 ⟨some 13, .lenSl (.tmp 12), none⟩,
 ⟨some 8, .move (.tmp 13), none⟩])
 (.seq (.ops [⟨some 14, .move (.tmp 8), none⟩,
 ⟨some 9, .move (.const (.int .i64 0)), none⟩,
 ⟨some 10, .move (.tmp 14), none⟩])
 (.seq (.block 0 (.loop (.seq (.seq (.ops [⟨some 15, .move (.tmp 9), none⟩,
 ⟨some 16, .move (.tmp 10), none⟩,
 ⟨some 17, .bin .lss (.tmp 15) (.tmp 16), none⟩])
 (.cond (.tmp 17)
 (.skip)
 (.exit 0)))
 (.block 1 (.seq (.ops [⟨some 18, .move (.tmp 9), none⟩,
 ⟨some 19, .move (.tmp 10), none⟩,
 ⟨some 20, .bin .add (.tmp 18) (.tmp 19), none⟩,
 ⟨some 21, .conv .u64 (.tmp 20), none⟩,
 ⟨some 22, .bin .shr (.tmp 21) (.const (.int .u64 1)), none⟩,
 ⟨some 23, .conv .i64 (.tmp 22), none⟩,
 ⟨some 11, .move (.tmp 23), none⟩])
 (.seq (.ops [⟨some 24, .move (.tmp 2), none⟩,
 ⟨some 25, .move (.tmp 0), none⟩,
 ⟨some 26, .move (.tmp 11), none⟩,
 ⟨some 27, .idxSl 4 (.tmp 25) (.tmp 26), none⟩,
 ⟨some 28, .loadN 4 (.tmp 27), none⟩,
 ⟨some 29, .move (.tmp 1), none⟩,
 ⟨some 30, .callDyn (.tmp 24) [.tmp 28, .tmp 29], none⟩,
 ⟨some 31, .bin .lss (.tmp 30) (.const (.int .i64 0)), none⟩])
 (.cond (.tmp 31)
 (.ops [⟨some 32, .move (.tmp 11), none⟩,
 ⟨some 33, .bin .add (.tmp 32) (.const (.int .i64 1)), none⟩,
 ⟨some 9, .move (.tmp 33), none⟩])
 (.ops [⟨some 34, .move (.tmp 11), none⟩,
 ⟨some 10, .move (.tmp 34), none⟩]))))))))
 (.seq (.ops [⟨some 35, .move (.tmp 9), none⟩,
 ⟨some 36, .move (.tmp 9), none⟩,
 ⟨some 37, .move (.tmp 8), none⟩,
 ⟨some 38, .bin .lss (.tmp 36) (.tmp 37), none⟩,
 ⟨some 39, .move (.tmp 38), none⟩,
 ⟨some 40, .move (.tmp 2), some (39, true)⟩,
 ⟨some 41, .move (.tmp 0), some (39, true)⟩,
 ⟨some 42, .move (.tmp 9), some (39, true)⟩,
 ⟨some 43, .idxSl 4 (.tmp 41) (.tmp 42), some (39, true)⟩,
 ⟨some 44, .loadN 4 (.tmp 43), some (39, true)⟩,
 ⟨some 45, .move (.tmp 1), some (39, true)⟩,
 ⟨some 46, .callDyn (.tmp 40) [.tmp 44, .tmp 45], some (39, true)⟩,
 ⟨some 47, .bin .eql (.tmp 46) (.const (.int .i64 0)), some (39, true)⟩,
 ⟨some 48, .pick (.tmp 39) (.tmp 47) (.const (.bool false)), none⟩,
 ⟨some 6, .move (.tmp 35), none⟩,
 ⟨some 7, .move (.tmp 48), none⟩])
 (.ret)))))⟩
/-- A context has these functions. -/
structure HasUse (c : Ctx) : Prop where
 usage_New : c.IP (c.F 237) = some (c_usage_New c.F c.Ty)
 usage_Usage_find : c.IP (c.F 238) = some (c_usage_Usage_find c.F c.Ty)
 usage_Usage_find_F1 : c.IP (c.F 239) = some (c_usage_Usage_find_F1 c.F c.Ty)
 usage_may : c.IP (c.F 240) = some (c_usage_may c.F c.Ty)
 usage_errno : c.IP (c.F 241) = some (c_usage_errno c.F c.Ty)
 usage_Usage_add : c.IP (c.F 242) = some (c_usage_Usage_add c.F c.Ty)
 usage_Usage_Add : c.IP (c.F 243) = some (c_usage_Usage_Add c.F c.Ty)
 usage_Usage_dead : c.IP (c.F 244) = some (c_usage_Usage_dead c.F c.Ty)
 usage_Usage_Dead : c.IP (c.F 245) = some (c_usage_Usage_Dead c.F c.Ty)
 usage_Usage_Drop : c.IP (c.F 246) = some (c_usage_Usage_Drop c.F c.Ty)
 usage_Score : c.IP (c.F 247) = some (c_usage_Score c.F c.Ty)
 usage_Usage_Pick : c.IP (c.F 248) = some (c_usage_Usage_Pick c.F c.Ty)
 usage_Usage_Empty : c.IP (c.F 249) = some (c_usage_Usage_Empty c.F c.Ty)
 usage_Usage_All : c.IP (c.F 250) = some (c_usage_Usage_All c.F c.Ty)
 usage_Usage_Live : c.IP (c.F 251) = some (c_usage_Usage_Live c.F c.Ty)
 slices_Insert_api_Use_api_Use : c.IP (c.F 252) = some (c_slices_Insert_api_Use_api_Use c.F c.Ty)
 slices_Delete_api_Use_api_Use : c.IP (c.F 253) = some (c_slices_Delete_api_Use_api_Use c.F c.Ty)
 slices_Clone_api_Use_api_Use : c.IP (c.F 254) = some (c_slices_Clone_api_Use_api_Use c.F c.Ty)
 slices_BinarySearchFunc_api_Use_api_Use_int : c.IP (c.F 255) = some (c_slices_BinarySearchFunc_api_Use_api_Use_int c.F c.Ty)

end Go.Proofs.YtdfjicnjcibdaaaI
