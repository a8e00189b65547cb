/- PRINTED by gen.py (this session's own): the intermediate form of some functions, and a context's having them. / slices.Insert, of rows of four cells: what it does, its slice seen whole. / slices.Insert, of rows of four cells: what it does to an own slice. / What stays of a heap: blocks that are known to stay. -/
import Derived.Test.YtndndcdblfejnaaGreatRSmDM
import Derived.Test.YtndndcdblfejnaaGreatRMaps
namespace Go.Proofs.YtndndcdblfejnaaGreatRI
set_option linter.unusedSimpArgs false
set_option linter.unusedVariables false
open Go

/-- hurdle/usage.New -/
abbrev n_usage_New : Nat := 237
/-- (*hurdle/usage.Usage).find -/
abbrev n_usage_Usage_find : Nat := 238
/-- (*hurdle/usage.Usage).find$1 -/
abbrev n_usage_Usage_find_F1 : Nat := 239
/-- hurdle/usage.may -/
abbrev n_usage_may : Nat := 240
/-- hurdle/usage.errno -/
abbrev n_usage_errno : Nat := 241
/-- (*hurdle/usage.Usage).add -/
abbrev n_usage_Usage_add : Nat := 242
/-- (*hurdle/usage.Usage).Add -/
abbrev n_usage_Usage_Add : Nat := 243
/-- (*hurdle/usage.Usage).dead -/
abbrev n_usage_Usage_dead : Nat := 244
/-- (*hurdle/usage.Usage).Dead -/
abbrev n_usage_Usage_Dead : Nat := 245
/-- (*hurdle/usage.Usage).Drop -/
abbrev n_usage_Usage_Drop : Nat := 246
/-- slices.Insert[[]hurdle/api.Use,hurdle/api.Use] -/
abbrev n_slices_Insert_api_Use_api_Use : Nat := 252
/-- slices.Delete[[]hurdle/api.Use,hurdle/api.Use] -/
abbrev n_slices_Delete_api_Use_api_Use : Nat := 253
/-- slices.BinarySearchFunc[[]hurdle/api.Use,hurdle/api.Use,int] -/
abbrev n_slices_BinarySearchFunc_api_Use_api_Use_int : Nat := 255
/-- hurdle/usage.New -/
def c_usage_New (F : Nat → FuncId) (Ty : Nat → TypeId) : IFunc := ⟨3, [.tmp 0],
 .seq (.ops [⟨some 0, .move (.const (.pointer none)), none⟩])
 (.seq (.ops [⟨some 1, .build [.slice none 0 0] [], none⟩,
 ⟨some 2, .box (.tmp 1), none⟩,
 ⟨some 0, .move (.tmp 2), none⟩])
 (.ret))⟩
/-- (*hurdle/usage.Usage).find -/
def c_usage_Usage_find (F : Nat → FuncId) (Ty : Nat → TypeId) : IFunc := ⟨14, [.tmp 4, .tmp 5],
 .seq (.ops [⟨some 4, .move (.const (.int .i64 0)), none⟩,
 ⟨some 5, .move (.const (.bool false)), none⟩])
 (.seq (.ops [⟨some 6, .move (.tmp 0), none⟩,
 ⟨some 7, .nilCheck (.tmp 6), none⟩,
 ⟨some 8, .fieldAddr 0 (.tmp 7), none⟩,
 ⟨some 9, .load1 (.tmp 8), none⟩,
 ⟨some 10, .move (.tmp 1), none⟩,
 ⟨some 11, .call (F 255) [.tmp 9, .tmp 10, .func (F 239)], none⟩,
 ⟨some 12, .extract (.tmp 11) 0, none⟩,
 ⟨some 13, .extract (.tmp 11) 1, none⟩,
 ⟨some 4, .move (.tmp 12), none⟩,
 ⟨some 5, .move (.tmp 13), none⟩])
 (.ret))⟩
/-- (*hurdle/usage.Usage).find$1 -/
def c_usage_Usage_find_F1 (F : Nat → FuncId) (Ty : Nat → TypeId) : IFunc := ⟨15, [.tmp 4],
 .seq (.ops [⟨some 2, .box (.tmp 0), none⟩,
 ⟨some 4, .move (.const (.int .i64 0)), none⟩])
 (.seq (.block 0 (.seq (.ops [⟨some 6, .fieldAddr 0 (.tmp 2), none⟩,
 ⟨some 7, .load1 (.tmp 6), none⟩,
 ⟨some 8, .move (.tmp 1), none⟩,
 ⟨some 9, .bin .lss (.tmp 7) (.tmp 8), none⟩,
 ⟨some 5, .move (.tmp 9), none⟩])
 (.cond (.tmp 5)
 (.seq (.ops [⟨some 4, .move (.const (.int .i64 (-1))), none⟩])
 (.ret))
 (.seq (.ops [⟨some 11, .fieldAddr 0 (.tmp 2), none⟩,
 ⟨some 12, .load1 (.tmp 11), none⟩,
 ⟨some 13, .move (.tmp 1), none⟩,
 ⟨some 14, .bin .gtr (.tmp 12) (.tmp 13), none⟩,
 ⟨some 10, .move (.tmp 14), none⟩])
 (.cond (.tmp 10)
 (.seq (.ops [⟨some 4, .move (.const (.int .i64 1)), none⟩])
 (.ret))
 (.skip))))))
 (.seq (.ops [⟨some 4, .move (.const (.int .i64 0)), none⟩])
 (.ret)))⟩
/-- hurdle/usage.may -/
def c_usage_may (F : Nat → FuncId) (Ty : Nat → TypeId) : IFunc := ⟨33, [.tmp 2],
 .seq (.ops [⟨some 1, .box (.tmp 0), none⟩,
 ⟨some 2, .move (.const (.bool false)), none⟩])
 (.seq (.ops [⟨some 3, .fieldAddr 1 (.tmp 1), none⟩,
 ⟨some 4, .load1 (.tmp 3), none⟩,
 ⟨some 5, .bin .geq (.tmp 4) (.const (.int .i64 1)), none⟩,
 ⟨some 6, .move (.tmp 5), none⟩,
 ⟨some 7, .fieldAddr 1 (.tmp 1), some (6, true)⟩,
 ⟨some 8, .load1 (.tmp 7), some (6, true)⟩,
 ⟨some 9, .bin .leq (.tmp 8) (.const (.int .i64 65536)), some (6, true)⟩,
 ⟨some 10, .pick (.tmp 6) (.tmp 9) (.const (.bool false)), none⟩,
 ⟨some 11, .move (.tmp 10), none⟩,
 ⟨some 12, .fieldAddr 2 (.tmp 1), some (11, true)⟩,
 ⟨some 13, .load1 (.tmp 12), some (11, true)⟩,
 ⟨some 14, .bin .geq (.tmp 13) (.const (.int .i64 0)), some (11, true)⟩,
 ⟨some 15, .pick (.tmp 11) (.tmp 14) (.const (.bool false)), none⟩,
 ⟨some 16, .move (.tmp 15), none⟩,
 ⟨some 17, .fieldAddr 2 (.tmp 1), some (16, true)⟩,
 ⟨some 18, .load1 (.tmp 17), some (16, true)⟩,
 ⟨some 19, .fieldAddr 1 (.tmp 1), some (16, true)⟩,
 ⟨some 20, .load1 (.tmp 19), some (16, true)⟩,
 ⟨some 21, .bin .leq (.tmp 18) (.tmp 20), some (16, true)⟩,
 ⟨some 22, .pick (.tmp 16) (.tmp 21) (.const (.bool false)), none⟩,
 ⟨some 23, .move (.tmp 22), none⟩,
 ⟨some 24, .fieldAddr 3 (.tmp 1), some (23, true)⟩,
 ⟨some 25, .load1 (.tmp 24), some (23, true)⟩,
 ⟨some 26, .bin .geq (.tmp 25) (.const (.int .i64 0)), some (23, true)⟩,
 ⟨some 27, .pick (.tmp 23) (.tmp 26) (.const (.bool false)), none⟩,
 ⟨some 28, .move (.tmp 27), none⟩,
 ⟨some 29, .fieldAddr 3 (.tmp 1), some (28, true)⟩,
 ⟨some 30, .load1 (.tmp 29), some (28, true)⟩,
 ⟨some 31, .bin .leq (.tmp 30) (.const (.int .i64 1099511627776)), some (28, true)⟩,
 ⟨some 32, .pick (.tmp 28) (.tmp 31) (.const (.bool false)), none⟩,
 ⟨some 2, .move (.tmp 32), none⟩])
 (.ret))⟩
/-- hurdle/usage.errno -/
def c_usage_errno (F : Nat → FuncId) (Ty : Nat → TypeId) : IFunc := ⟨17, [.tmp 2],
 .seq (.ops [⟨some 2, .move (.const (.int .i64 0)), none⟩])
 (.seq (.seq (.ops [⟨some 5, .move (.tmp 0), none⟩,
 ⟨some 6, .build [.int .i64 0] [], none⟩,
 ⟨some 7, .mkIface (Ty 6) (.tmp 6), none⟩,
 ⟨some 8, .call (F 256) [.tmp 5, .tmp 7], none⟩,
 ⟨some 9, .un .not (.tmp 8), none⟩])
 (.cond (.tmp 9)
 (.seq (.ops [⟨some 2, .move (.const (.int .i64 0)), none⟩])
 (.ret))
 (.skip)))
 (.seq (.ops [⟨some 11, .move (.tmp 0), none⟩,
 ⟨some 12, .assertT (Ty 6) (.agg #[.int .i64 0]) true (.tmp 11), none⟩,
 ⟨some 10, .move (.tmp 12), none⟩,
 ⟨some 13, .extract (.tmp 10) 0, none⟩,
 ⟨some 14, .extract (.tmp 10) 1, none⟩,
 ⟨some 3, .alloc [.int .i64 0], none⟩,
 ⟨none, .store 1 (.tmp 3) (.tmp 13), none⟩,
 ⟨some 4, .move (.tmp 14), none⟩])
 (.seq (.ops [⟨some 15, .fieldAddr 0 (.tmp 3), none⟩,
 ⟨some 16, .load1 (.tmp 15), none⟩,
 ⟨some 2, .move (.tmp 16), none⟩])
 (.ret))))⟩
/-- (*hurdle/usage.Usage).add -/
def c_usage_Usage_add (F : Nat → FuncId) (Ty : Nat → TypeId) : IFunc := ⟨47, [.tmp 4],
 .seq (.ops [⟨some 3, .box (.tmp 1), none⟩,
 ⟨some 4, .move (.const (.nilIface)), none⟩])
 (.seq (.seq (.ops [⟨some 7, .move (.tmp 0), none⟩,
 ⟨some 8, .eqNil 0 false (.tmp 7), none⟩,
 ⟨some 9, .move (.tmp 8), none⟩,
 ⟨some 10, .fieldAddr 0 (.tmp 3), some (9, false)⟩,
 ⟨some 11, .load1 (.tmp 10), some (9, false)⟩,
 ⟨some 12, .bin .lss (.tmp 11) (.const (.int .i64 0)), some (9, false)⟩,
 ⟨some 13, .pick (.tmp 9) (.const (.bool true)) (.tmp 12), none⟩,
 ⟨some 14, .move (.tmp 13), none⟩,
 ⟨some 15, .fieldAddr 0 (.tmp 3), some (14, false)⟩,
 ⟨some 16, .load1 (.tmp 15), some (14, false)⟩,
 ⟨some 17, .bin .geq (.tmp 16) (.const (.int .i64 4096)), some (14, false)⟩,
 ⟨some 18, .pick (.tmp 14) (.const (.bool true)) (.tmp 17), none⟩,
 ⟨some 19, .move (.tmp 18), none⟩,
 ⟨some 20, .loadN 4 (.tmp 3), some (19, false)⟩,
 ⟨some 21, .call (F 240) [.tmp 20], some (19, false)⟩,
 ⟨some 22, .un .not (.tmp 21), some (19, false)⟩,
 ⟨some 23, .pick (.tmp 19) (.const (.bool true)) (.tmp 22), none⟩])
 (.cond (.tmp 23)
 (.seq (.ops [⟨some 24, .build [.int .i64 0] [((0, 1), .const (.int .i64 1))], none⟩,
 ⟨some 25, .mkIface (Ty 6) (.tmp 24), none⟩,
 ⟨some 4, .move (.tmp 25), none⟩])
 (.ret))
 (.skip)))
 (.seq (.ops [⟨some 27, .move (.tmp 0), none⟩,
 ⟨some 28, .fieldAddr 0 (.tmp 3), none⟩,
 ⟨some 29, .load1 (.tmp 28), none⟩,
 ⟨some 30, .call (F 238) [.tmp 27, .tmp 29], none⟩,
 ⟨some 26, .move (.tmp 30), none⟩,
 ⟨some 31, .extract (.tmp 26) 0, none⟩,
 ⟨some 32, .extract (.tmp 26) 1, none⟩,
 ⟨some 5, .move (.tmp 31), none⟩,
 ⟨some 6, .move (.tmp 32), none⟩])
 (.seq (.seq (.ops [⟨some 33, .move (.tmp 6), none⟩])
 (.cond (.tmp 33)
 (.seq (.ops [⟨some 34, .build [.int .i64 0] [((0, 1), .const (.int .i64 6))], none⟩,
 ⟨some 35, .mkIface (Ty 6) (.tmp 34), none⟩,
 ⟨some 4, .move (.tmp 35), none⟩])
 (.ret))
 (.skip)))
 (.seq (.draw [(⟨some 36, .move (.tmp 0), none⟩, []),
 (⟨some 37, .move (.tmp 0), none⟩, []),
 (⟨some 38, .nilCheck (.tmp 37), none⟩, []),
 (⟨some 39, .fieldAddr 0 (.tmp 38), none⟩, []),
 (⟨some 40, .load1 (.tmp 39), none⟩, []),
 (⟨some 41, .move (.tmp 5), none⟩, []),
 (⟨some 42, .loadN 4 (.tmp 3), none⟩, []),
 (⟨some 43, .buildSlice 1 [.int .i64 0, .int .i64 0, .int .i64 0, .int .i64 0] [((0, 4), .tmp 42)], none⟩, []),
 (⟨some 44, .call (F 252) [.tmp 40, .tmp 41, .tmp 43], none⟩, []),
 (⟨some 45, .nilCheck (.tmp 36), none⟩, []),
 (⟨some 46, .fieldAddr 0 (.tmp 45), none⟩, []),
 (⟨none, .store 1 (.tmp 46) (.tmp 44), none⟩, [])])
 (.seq (.ops [⟨some 4, .move (.const (.nilIface)), none⟩])
 (.ret))))))⟩
/-- (*hurdle/usage.Usage).Add -/
def c_usage_Usage_Add (F : Nat → FuncId) (Ty : Nat → TypeId) : IFunc := ⟨19, [.tmp 10],
 .seq (.ops [⟨some 10, .move (.const (.int .i64 0)), none⟩])
 (.seq (.ops [⟨some 11, .move (.tmp 0), none⟩,
 ⟨some 12, .move (.tmp 1), none⟩,
 ⟨some 13, .move (.tmp 2), none⟩,
 ⟨some 14, .move (.tmp 3), none⟩,
 ⟨some 15, .move (.tmp 4), none⟩,
 ⟨some 16, .build [.int .i64 0, .int .i64 0, .int .i64 0, .int .i64 0] [((0, 1), .tmp 12), ((1, 1), .tmp 13), ((2, 1), .tmp 14), ((3, 1), .tmp 15)], none⟩,
 ⟨some 17, .call (F 242) [.tmp 11, .tmp 16], none⟩,
 ⟨some 18, .call (F 241) [.tmp 17], none⟩,
 ⟨some 10, .move (.tmp 18), none⟩])
 (.ret))⟩
/-- (*hurdle/usage.Usage).dead -/
def c_usage_Usage_dead (F : Nat → FuncId) (Ty : Nat → TypeId) : IFunc := ⟨53, [.tmp 6],
 .seq (.ops [⟨some 6, .move (.const (.nilIface)), none⟩])
 (.seq (.seq (.ops [⟨some 9, .move (.tmp 0), none⟩,
 ⟨some 10, .eqNil 0 false (.tmp 9), none⟩,
 ⟨some 11, .move (.tmp 10), none⟩,
 ⟨some 12, .move (.tmp 2), some (11, false)⟩,
 ⟨some 13, .bin .lss (.tmp 12) (.const (.int .i64 0)), some (11, false)⟩,
 ⟨some 14, .pick (.tmp 11) (.const (.bool true)) (.tmp 13), none⟩])
 (.cond (.tmp 14)
 (.seq (.ops [⟨some 15, .build [.int .i64 0] [((0, 1), .const (.int .i64 1))], none⟩,
 ⟨some 16, .mkIface (Ty 6) (.tmp 15), none⟩,
 ⟨some 6, .move (.tmp 16), none⟩])
 (.ret))
 (.skip)))
 (.seq (.ops [⟨some 18, .move (.tmp 0), none⟩,
 ⟨some 19, .move (.tmp 1), none⟩,
 ⟨some 20, .call (F 238) [.tmp 18, .tmp 19], none⟩,
 ⟨some 17, .move (.tmp 20), none⟩,
 ⟨some 21, .extract (.tmp 17) 0, none⟩,
 ⟨some 22, .extract (.tmp 17) 1, none⟩,
 ⟨some 7, .move (.tmp 21), none⟩,
 ⟨some 8, .move (.tmp 22), none⟩])
 (.seq (.block 0 (.seq (.ops [⟨some 24, .move (.tmp 8), none⟩,
 ⟨some 25, .un .not (.tmp 24), none⟩,
 ⟨some 23, .move (.tmp 25), none⟩])
 (.cond (.tmp 23)
 (.seq (.ops [⟨some 26, .build [.int .i64 0] [((0, 1), .const (.int .i64 7))], none⟩,
 ⟨some 27, .mkIface (Ty 6) (.tmp 26), none⟩,
 ⟨some 6, .move (.tmp 27), none⟩])
 (.ret))
 (.seq (.ops [⟨some 29, .move (.tmp 2), none⟩,
 ⟨some 30, .move (.tmp 0), none⟩,
 ⟨some 31, .nilCheck (.tmp 30), none⟩,
 ⟨some 32, .fieldAddr 0 (.tmp 31), none⟩,
 ⟨some 33, .load1 (.tmp 32), none⟩,
 ⟨some 34, .move (.tmp 7), none⟩,
 ⟨some 35, .idxSl 4 (.tmp 33) (.tmp 34), none⟩,
 ⟨some 36, .fieldAddr 2 (.tmp 35), none⟩,
 ⟨some 37, .load1 (.tmp 36), none⟩,
 ⟨some 38, .bin .gtr (.tmp 29) (.tmp 37), none⟩,
 ⟨some 28, .move (.tmp 38), none⟩])
 (.cond (.tmp 28)
 (.seq (.ops [⟨some 39, .build [.int .i64 0] [((0, 1), .const (.int .i64 2))], none⟩,
 ⟨some 40, .mkIface (Ty 6) (.tmp 39), none⟩,
 ⟨some 6, .move (.tmp 40), none⟩])
 (.ret))
 (.skip))))))
 (.seq (.ops [⟨some 41, .move (.tmp 0), none⟩,
 ⟨some 42, .nilCheck (.tmp 41), none⟩,
 ⟨some 43, .fieldAddr 0 (.tmp 42), none⟩,
 ⟨some 44, .load1 (.tmp 43), none⟩,
 ⟨some 45, .move (.tmp 7), none⟩,
 ⟨some 46, .idxSl 4 (.tmp 44) (.tmp 45), none⟩,
 ⟨some 47, .fieldAddr 2 (.tmp 46), none⟩,
 ⟨some 48, .load1 (.tmp 47), none⟩,
 ⟨some 49, .move (.tmp 2), none⟩,
 ⟨some 50, .bin .sub (.tmp 48) (.tmp 49), none⟩,
 ⟨some 51, .idxSl 4 (.tmp 44) (.tmp 45), none⟩,
 ⟨some 52, .fieldAddr 2 (.tmp 51), none⟩,
 ⟨none, .store 1 (.tmp 52) (.tmp 50), none⟩])
 (.seq (.ops [⟨some 6, .move (.const (.nilIface)), none⟩])
 (.ret))))))⟩
/-- (*hurdle/usage.Usage).Dead -/
def c_usage_Usage_Dead (F : Nat → FuncId) (Ty : Nat → TypeId) : IFunc := ⟨12, [.tmp 6],
 .seq (.ops [⟨some 6, .move (.const (.int .i64 0)), none⟩])
 (.seq (.ops [⟨some 7, .move (.tmp 0), none⟩,
 ⟨some 8, .move (.tmp 1), none⟩,
 ⟨some 9, .move (.tmp 2), none⟩,
 ⟨some 10, .call (F 244) [.tmp 7, .tmp 8, .tmp 9], none⟩,
 ⟨some 11, .call (F 241) [.tmp 10], none⟩,
 ⟨some 6, .move (.tmp 11), none⟩])
 (.ret))⟩
/-- (*hurdle/usage.Usage).Drop -/
def c_usage_Usage_Drop (F : Nat → FuncId) (Ty : Nat → TypeId) : IFunc := ⟨28, [.tmp 4],
 .seq (.ops [⟨some 4, .move (.const (.bool false)), none⟩])
 (.seq (.seq (.ops [⟨some 7, .move (.tmp 0), none⟩,
 ⟨some 8, .eqNil 0 false (.tmp 7), none⟩])
 (.cond (.tmp 8)
 (.seq (.ops [⟨some 4, .move (.const (.bool false)), none⟩])
 (.ret))
 (.skip)))
 (.seq (.ops [⟨some 10, .move (.tmp 0), none⟩,
 ⟨some 11, .move (.tmp 1), none⟩,
 ⟨some 12, .call (F 238) [.tmp 10, .tmp 11], none⟩,
 ⟨some 9, .move (.tmp 12), none⟩,
 ⟨some 13, .extract (.tmp 9) 0, none⟩,
 ⟨some 14, .extract (.tmp 9) 1, none⟩,
 ⟨some 5, .move (.tmp 13), none⟩,
 ⟨some 6, .move (.tmp 14), none⟩])
 (.seq (.seq (.ops [⟨some 15, .move (.tmp 6), none⟩])
 (.cond (.tmp 15)
 (.ops [⟨some 16, .move (.tmp 0), none⟩,
 ⟨some 17, .move (.tmp 0), none⟩,
 ⟨some 18, .nilCheck (.tmp 17), none⟩,
 ⟨some 19, .fieldAddr 0 (.tmp 18), none⟩,
 ⟨some 20, .load1 (.tmp 19), none⟩,
 ⟨some 21, .move (.tmp 5), none⟩,
 ⟨some 22, .move (.tmp 5), none⟩,
 ⟨some 23, .bin .add (.tmp 22) (.const (.int .i64 1)), none⟩,
 ⟨some 24, .call (F 253) [.tmp 20, .tmp 21, .tmp 23], none⟩,
 ⟨some 25, .nilCheck (.tmp 16), none⟩,
 ⟨some 26, .fieldAddr 0 (.tmp 25), none⟩,
 ⟨none, .store 1 (.tmp 26) (.tmp 24), none⟩])
 (.skip)))
 (.seq (.ops [⟨some 27, .move (.tmp 6), none⟩,
 ⟨some 4, .move (.tmp 27), none⟩])
 (.ret)))))⟩
/-- slices.Insert[[]hurdle/api.Use,hurdle/api.Use] -/
def c_slices_Insert_api_Use_api_Use (F : Nat → FuncId) (Ty : Nat → TypeId) : IFunc := ⟨95, [.tmp 6],
 .seq (.ops [⟨some 6, .move (.const (.slice none 0 0)), none⟩])
 (.seq (.ops [⟨some 10, .move (.tmp 0), none⟩,
 ⟨some 11, .move (.tmp 1), none⟩,
 ⟨some 12, .sliceSl 4 (.tmp 10) (some (.tmp 11)) none none, none⟩])
 (.seq (.ops [⟨some 13, .move (.tmp 2), none⟩,
 ⟨some 14, .lenSl (.tmp 13), none⟩,
 ⟨some 7, .move (.tmp 14), none⟩])
 (.seq (.seq (.ops [⟨some 15, .move (.tmp 7), none⟩,
 ⟨some 16, .bin .eql (.tmp 15) (.const (.int .i64 0)), none⟩])
 (.cond (.tmp 16)
 (.seq (.ops [⟨some 17, .move (.tmp 0), none⟩,
 ⟨some 6, .move (.tmp 17), none⟩])
 (.ret))
 (.skip)))
 (.seq (.ops [⟨some 18, .move (.tmp 0), none⟩,
 ⟨some 19, .lenSl (.tmp 18), none⟩,
 ⟨some 8, .move (.tmp 19), none⟩])
 (.seq (.seq (.ops [⟨some 20, .move (.tmp 1), none⟩,
 ⟨some 21, .move (.tmp 8), none⟩,
 ⟨some 22, .bin .eql (.tmp 20) (.tmp 21), none⟩])
 (.cond (.tmp 22)
 (.seq (.ops [⟨some 23, .move (.tmp 0), none⟩,
 ⟨some 24, .move (.tmp 2), none⟩,
 ⟨some 25, .append 4 32 (.tmp 23) (.tmp 24), none⟩,
 ⟨some 6, .move (.tmp 25), none⟩])
 (.ret))
 (.skip)))
 (.seq (.seq (.ops [⟨some 26, .move (.tmp 8), none⟩,
 ⟨some 27, .move (.tmp 7), none⟩,
 ⟨some 28, .bin .add (.tmp 26) (.tmp 27), none⟩,
 ⟨some 29, .move (.tmp 0), none⟩,
 ⟨some 30, .capSl (.tmp 29), none⟩,
 ⟨some 31, .bin .gtr (.tmp 28) (.tmp 30), none⟩])
 (.cond (.tmp 31)
 (.seq (.ops [⟨some 32, .move (.tmp 0), none⟩,
 ⟨some 33, .move (.tmp 1), none⟩,
 ⟨some 34, .sliceSl 4 (.tmp 32) none (some (.tmp 33)) none, none⟩,
 ⟨some 35, .move (.tmp 8), none⟩,
 ⟨some 36, .move (.tmp 7), none⟩,
 ⟨some 37, .bin .add (.tmp 35) (.tmp 36), none⟩,
 ⟨some 38, .move (.tmp 1), none⟩,
 ⟨some 39, .bin .sub (.tmp 37) (.tmp 38), none⟩,
 ⟨some 40, .appendZ 32 [.int .i64 0, .int .i64 0, .int .i64 0, .int .i64 0] (.tmp 34) (.tmp 39), none⟩,
 ⟨some 9, .move (.tmp 40), none⟩])
 (.seq (.ops [⟨some 41, .move (.tmp 9), none⟩,
 ⟨some 42, .move (.tmp 1), none⟩,
 ⟨some 43, .sliceSl 4 (.tmp 41) (some (.tmp 42)) none none, none⟩,
 ⟨some 44, .move (.tmp 2), none⟩,
 ⟨some 45, .copy 4 (.tmp 43) (.tmp 44), none⟩])
 (.seq (.draw [(⟨some 46, .move (.tmp 9), none⟩, []),
 (⟨some 47, .move (.tmp 1), none⟩, []),
 (⟨some 48, .move (.tmp 7), none⟩, []),
 (⟨some 49, .bin .add (.tmp 47) (.tmp 48), none⟩, []),
 (⟨some 50, .sliceSl 4 (.tmp 46) (some (.tmp 49)) none none, none⟩, []),
 (⟨some 51, .move (.tmp 0), none⟩, []),
 (⟨some 52, .move (.tmp 1), none⟩, []),
 (⟨some 53, .sliceSl 4 (.tmp 51) (some (.tmp 52)) none none, none⟩, []),
 (⟨some 54, .copy 4 (.tmp 50) (.tmp 53), none⟩, [])])
 (.seq (.ops [⟨some 55, .move (.tmp 9), none⟩,
 ⟨some 6, .move (.tmp 55), none⟩])
 (.ret)))))
 (.skip)))
 (.seq (.ops [⟨some 56, .move (.tmp 0), none⟩,
 ⟨some 57, .move (.tmp 8), none⟩,
 ⟨some 58, .move (.tmp 7), none⟩,
 ⟨some 59, .bin .add (.tmp 57) (.tmp 58), none⟩,
 ⟨some 60, .sliceSl 4 (.tmp 56) none (some (.tmp 59)) none, none⟩,
 ⟨some 0, .move (.tmp 60), none⟩])
 (.seq (.seq (.ops [⟨some 61, .move (.tmp 2), none⟩,
 ⟨some 62, .move (.tmp 0), none⟩,
 ⟨some 63, .move (.tmp 1), none⟩,
 ⟨some 64, .move (.tmp 7), none⟩,
 ⟨some 65, .bin .add (.tmp 63) (.tmp 64), none⟩,
 ⟨some 66, .sliceSl 4 (.tmp 62) (some (.tmp 65)) none none, none⟩,
 ⟨some 67, .call (F 257) [.tmp 61, .tmp 66], none⟩,
 ⟨some 68, .un .not (.tmp 67), none⟩])
 (.cond (.tmp 68)
 (.seq (.draw [(⟨some 69, .move (.tmp 0), none⟩, []),
 (⟨some 70, .move (.tmp 1), none⟩, []),
 (⟨some 71, .move (.tmp 7), none⟩, []),
 (⟨some 72, .bin .add (.tmp 70) (.tmp 71), none⟩, []),
 (⟨some 73, .sliceSl 4 (.tmp 69) (some (.tmp 72)) none none, none⟩, []),
 (⟨some 74, .move (.tmp 0), none⟩, []),
 (⟨some 75, .move (.tmp 1), none⟩, []),
 (⟨some 76, .sliceSl 4 (.tmp 74) (some (.tmp 75)) none none, none⟩, []),
 (⟨some 77, .copy 4 (.tmp 73) (.tmp 76), none⟩, [])])
 (.seq (.ops [⟨some 78, .move (.tmp 0), none⟩,
 ⟨some 79, .move (.tmp 1), none⟩,
 ⟨some 80, .sliceSl 4 (.tmp 78) (some (.tmp 79)) none none, none⟩,
 ⟨some 81, .move (.tmp 2), none⟩,
 ⟨some 82, .copy 4 (.tmp 80) (.tmp 81), none⟩])
 (.seq (.ops [⟨some 83, .move (.tmp 0), none⟩,
 ⟨some 6, .move (.tmp 83), none⟩])
 (.ret))))
 (.skip)))
 (.seq (.ops [⟨some 84, .move (.tmp 0), none⟩,
 ⟨some 85, .move (.tmp 8), none⟩,
 ⟨some 86, .sliceSl 4 (.tmp 84) (some (.tmp 85)) none none, none⟩,
 ⟨some 87, .move (.tmp 2), none⟩,
 ⟨some 88, .copy 4 (.tmp 86) (.tmp 87), none⟩])
 (.seq (.ops [⟨some 89, .move (.tmp 0), none⟩,
 ⟨some 90, .move (.tmp 1), none⟩,
 ⟨some 91, .sliceSl 4 (.tmp 89) (some (.tmp 90)) none none, none⟩,
 ⟨some 92, .move (.tmp 7), none⟩,
 ⟨some 93, .call (F 258) [.tmp 91, .tmp 92], none⟩])
 (.seq (.ops [⟨some 94, .move (.tmp 0), none⟩,
 ⟨some 6, .move (.tmp 94), none⟩])
 (.ret))))))))))))⟩
/-- slices.Delete[[]hurdle/api.Use,hurdle/api.Use] -/
def c_slices_Delete_api_Use_api_Use (F : Nat → FuncId) (Ty : Nat → TypeId) : IFunc := ⟨33, [.tmp 6],
 .seq (.ops [⟨some 6, .move (.const (.slice none 0 0)), none⟩])
 (.seq (.ops [⟨some 8, .move (.tmp 0), none⟩,
 ⟨some 9, .move (.tmp 1), none⟩,
 ⟨some 10, .move (.tmp 2), none⟩,
 ⟨some 11, .move (.tmp 0), none⟩,
 ⟨some 12, .lenSl (.tmp 11), none⟩,
 ⟨some 13, .sliceSl 4 (.tmp 8) (some (.tmp 9)) (some (.tmp 10)) (some (.tmp 12)), none⟩])
 (.seq (.seq (.ops [⟨some 14, .move (.tmp 1), none⟩,
 ⟨some 15, .move (.tmp 2), none⟩,
 ⟨some 16, .bin .eql (.tmp 14) (.tmp 15), none⟩])
 (.cond (.tmp 16)
 (.seq (.ops [⟨some 17, .move (.tmp 0), none⟩,
 ⟨some 6, .move (.tmp 17), none⟩])
 (.ret))
 (.skip)))
 (.seq (.ops [⟨some 18, .move (.tmp 0), none⟩,
 ⟨some 19, .lenSl (.tmp 18), none⟩,
 ⟨some 7, .move (.tmp 19), none⟩])
 (.seq (.draw [(⟨some 20, .move (.tmp 0), none⟩, []),
 (⟨some 21, .move (.tmp 1), none⟩, []),
 (⟨some 22, .sliceSl 4 (.tmp 20) none (some (.tmp 21)) none, none⟩, []),
 (⟨some 23, .move (.tmp 0), none⟩, []),
 (⟨some 24, .move (.tmp 2), none⟩, []),
 (⟨some 25, .sliceSl 4 (.tmp 23) (some (.tmp 24)) none none, none⟩, []),
 (⟨some 26, .append 4 32 (.tmp 22) (.tmp 25), none⟩, []),
 (⟨some 0, .move (.tmp 26), none⟩, [])])
 (.seq (.ops [⟨some 27, .move (.tmp 0), none⟩,
 ⟨some 28, .move (.tmp 0), none⟩,
 ⟨some 29, .lenSl (.tmp 28), none⟩,
 ⟨some 30, .move (.tmp 7), none⟩,
 ⟨some 31, .sliceSl 4 (.tmp 27) (some (.tmp 29)) (some (.tmp 30)) none, none⟩,
 ⟨none, .clearSl [.int .i64 0, .int .i64 0, .int .i64 0, .int .i64 0] (.tmp 31), none⟩])
 (.seq (.ops [⟨some 32, .move (.tmp 0), none⟩,
 ⟨some 6, .move (.tmp 32), none⟩])
 (.ret)))))))⟩
/-- slices.BinarySearchFunc[[]hurdle/api.Use,hurdle/api.Use,int] -/
def c_slices_BinarySearchFunc_api_Use_api_Use_int (F : Nat → FuncId) (Ty : Nat → TypeId) : IFunc := ⟨49, [.tmp 6, .tmp 7],
 .seq (.ops [⟨some 6, .move (.const (.int .i64 0)), none⟩,
 ⟨some 7, .move (.const (.bool false)), none⟩])
 (.seq (.ops [⟨some 12, .move (.tmp 0), none⟩,
 ⟨some 13, .lenSl (.tmp 12), none⟩,
 ⟨some 8, .move (.tmp 13), none⟩])
 (.seq (.ops [⟨some 14, .move (.tmp 8), none⟩,
 ⟨some 9, .move (.const (.int .i64 0)), none⟩,
 ⟨some 10, .move (.tmp 14), none⟩])
 (.seq (.block 0 (.loop (.seq (.seq (.ops [⟨some 15, .move (.tmp 9), none⟩,
 ⟨some 16, .move (.tmp 10), none⟩,
 ⟨some 17, .bin .lss (.tmp 15) (.tmp 16), none⟩])
 (.cond (.tmp 17)
 (.skip)
 (.exit 0)))
 (.block 1 (.seq (.ops [⟨some 18, .move (.tmp 9), none⟩,
 ⟨some 19, .move (.tmp 10), none⟩,
 ⟨some 20, .bin .add (.tmp 18) (.tmp 19), none⟩,
 ⟨some 21, .conv .u64 (.tmp 20), none⟩,
 ⟨some 22, .bin .shr (.tmp 21) (.const (.int .u64 1)), none⟩,
 ⟨some 23, .conv .i64 (.tmp 22), none⟩,
 ⟨some 11, .move (.tmp 23), none⟩])
 (.seq (.ops [⟨some 24, .move (.tmp 2), none⟩,
 ⟨some 25, .move (.tmp 0), none⟩,
 ⟨some 26, .move (.tmp 11), none⟩,
 ⟨some 27, .idxSl 4 (.tmp 25) (.tmp 26), none⟩,
 ⟨some 28, .loadN 4 (.tmp 27), none⟩,
 ⟨some 29, .move (.tmp 1), none⟩,
 ⟨some 30, .callDyn (.tmp 24) [.tmp 28, .tmp 29], none⟩,
 ⟨some 31, .bin .lss (.tmp 30) (.const (.int .i64 0)), none⟩])
 (.cond (.tmp 31)
 (.ops [⟨some 32, .move (.tmp 11), none⟩,
 ⟨some 33, .bin .add (.tmp 32) (.const (.int .i64 1)), none⟩,
 ⟨some 9, .move (.tmp 33), none⟩])
 (.ops [⟨some 34, .move (.tmp 11), none⟩,
 ⟨some 10, .move (.tmp 34), none⟩]))))))))
 (.seq (.ops [⟨some 35, .move (.tmp 9), none⟩,
 ⟨some 36, .move (.tmp 9), none⟩,
 ⟨some 37, .move (.tmp 8), none⟩,
 ⟨some 38, .bin .lss (.tmp 36) (.tmp 37), none⟩,
 ⟨some 39, .move (.tmp 38), none⟩,
 ⟨some 40, .move (.tmp 2), some (39, true)⟩,
 ⟨some 41, .move (.tmp 0), some (39, true)⟩,
 ⟨some 42, .move (.tmp 9), some (39, true)⟩,
 ⟨some 43, .idxSl 4 (.tmp 41) (.tmp 42), some (39, true)⟩,
 ⟨some 44, .loadN 4 (.tmp 43), some (39, true)⟩,
 ⟨some 45, .move (.tmp 1), some (39, true)⟩,
 ⟨some 46, .callDyn (.tmp 40) [.tmp 44, .tmp 45], some (39, true)⟩,
 ⟨some 47, .bin .eql (.tmp 46) (.const (.int .i64 0)), some (39, true)⟩,
 ⟨some 48, .pick (.tmp 39) (.tmp 47) (.const (.bool false)), none⟩,
 ⟨some 6, .move (.tmp 35), none⟩,
 ⟨some 7, .move (.tmp 48), none⟩])
 (.ret)))))⟩
/-- A context has these functions. -/
structure HasUse (c : Ctx) : Prop where
 usage_New : c.IP (c.F 237) = some (c_usage_New c.F c.Ty)
 usage_Usage_find : c.IP (c.F 238) = some (c_usage_Usage_find c.F c.Ty)
 usage_Usage_find_F1 : c.IP (c.F 239) = some (c_usage_Usage_find_F1 c.F c.Ty)
 usage_may : c.IP (c.F 240) = some (c_usage_may c.F c.Ty)
 usage_errno : c.IP (c.F 241) = some (c_usage_errno c.F c.Ty)
 usage_Usage_add : c.IP (c.F 242) = some (c_usage_Usage_add c.F c.Ty)
 usage_Usage_Add : c.IP (c.F 243) = some (c_usage_Usage_Add c.F c.Ty)
 usage_Usage_dead : c.IP (c.F 244) = some (c_usage_Usage_dead c.F c.Ty)
 usage_Usage_Dead : c.IP (c.F 245) = some (c_usage_Usage_Dead c.F c.Ty)
 usage_Usage_Drop : c.IP (c.F 246) = some (c_usage_Usage_Drop c.F c.Ty)
 slices_Insert_api_Use_api_Use : c.IP (c.F 252) = some (c_slices_Insert_api_Use_api_Use c.F c.Ty)
 slices_Delete_api_Use_api_Use : c.IP (c.F 253) = some (c_slices_Delete_api_Use_api_Use c.F c.Ty)
 slices_BinarySearchFunc_api_Use_api_Use_int : c.IP (c.F 255) = some (c_slices_BinarySearchFunc_api_Use_api_Use_int c.F c.Ty)

end Go.Proofs.YtndndcdblfejnaaGreatRI
namespace Go.Proofs.YtndndcdblfejnaaGreatRI
attribute [local simp] J0 J1 J2 J3 J4 J5 J6 J7 J8 J9 Ja Jb Jc Jd Je Jf Jg Jh Ji Jj Jk Jl Jm Jn Jo Jp Jq Jr Js Jt Ju Jv Jw Jx Jy Jz JA JB JC JD JE JF JG JH JI JJ JK JL JM JN JO JP JQ JR JS stillI IOp.kind JT JU JV JW JX JY JZ Y0 Y1 Y2 Y3 Y4 Y5 Y6 Y7 Y8 Y9 Ya Yb Yc Yd Ye Yf Yg Yh Yi Yj Yk Yl Ym Yn Yo Yp Yq ial Yr Ys Yt Yu Yv Yw Yx Yy ires iresL ires1 Yz YA YB YC YD YE bin2 YF YG YH YI YJ YK YL YM YN YO YP YQ YR YS YT YU un1 shOk eqL eq1 fillL putAt IHeap.load1 IHeap.loadL IHeap.storeL YV YW YX YY YZ B0 B1 B2 B3 B4 B5 B6 B7 B8 B9 Ba Bb Bc Bd Be Bf Bg Bh Bi Bj Bk Bl Bm Bn Bo Bp
set_option linter.unusedSimpArgs false
set_option linter.unusedVariables false
open Go

theorem put_end {L F new : List Value} (h : L.take F.length = F) (hl : F.length + new.length ≤ L.length) : ((putAt L F.length new).take (F.length + new.length)) = F ++ new := by
  unfold putAt
  rw [h, List.take_append_of_le_length (by simp)]
  rw [List.take_of_length_le (by simp)]
theorem put_len {L vs : List Value} {o : Nat} (h : o + vs.length ≤ L.length) : (putAt L o vs).length = L.length := by
  unfold putAt
  simp only [List.length_append, List.length_take, List.length_drop]; omega
/-- A row put in between. -/
theorem put_mid {L A B new : List Value} (h : L.take (A.length + B.length) = A ++ B) (hl : A.length + new.length + B.length ≤ L.length) :
    (putAt (putAt L (A.length + new.length) B) A.length new).take (A.length + new.length + B.length) = A ++ new ++ B := by
  have hA : L.take A.length = A := by
    have := congrArg (List.take A.length) h
    rwa [List.take_take, Nat.min_eq_left (by omega), List.take_left] at this
  have h1 : (putAt L (A.length + new.length) B).take A.length = A := by
    unfold putAt
    rw [List.append_assoc, List.take_append_of_le_length (by rw [List.length_take]; omega), List.take_take, Nat.min_eq_left (by omega), hA]
  have h2 : (putAt L (A.length + new.length) B).drop (A.length + new.length) = B ++ L.drop (A.length + new.length + B.length) := by
    unfold putAt
    rw [List.append_assoc, List.drop_append_of_le_length (by rw [List.length_take]; omega), List.drop_of_length_le (by rw [List.length_take]; omega), List.nil_append]
  unfold putAt at h1 h2 ⊢
  rw [h1, h2]
  rw [← List.append_assoc, List.take_append_of_le_length (by simp only [List.length_append]; omega), List.take_of_length_le (by simp only [List.length_append]; omega)]

section
variable (c : Ctx) (hc : HasUse c) (hO : ∀ (H : IHeap) (K : Value → IHeap → Prop) (b1 o1 n1 c1 b2 o2 n2 c2 : Nat) (cs1 cs2 : List Value), b1 ≠ b2 → 0 < n1 → 0 < n2 → H.get b1 = some (.cells cs1 false) → H.get b2 = some (.cells cs2 false) → o1 ≤ cs1.length → cs2 ≠ [] → K (.bool false) H →
  c.C (c.F 257) [.slice (some ⟨b1, o1, none⟩) n1 c1, .slice (some ⟨b2, o2, none⟩) n2 c2] H K) {H : IHeap} {K : Value → IHeap → Prop}

include hc in
theorem Ins_nil {vb : Nat} {new : List Value} (hv : H.get vb = some (.cells new false)) (hn : new.length = 4) (hK : K (.slice (some ⟨H.next, 0, none⟩) 1 (UNK + 4)) (H.alloc (.cells new false))) :
    c.C (c.F n_slices_Insert_api_Use_api_Use) [.slice none 0 0, .int .i64 0, .slice (some ⟨vb, 0, none⟩) 1 1] H K := by
  refine c.enter hc.slices_Insert_api_Use_api_Use rfl ?_
  have s0 : sliceI H 4 none 0 0 0 0 none = some (.slice none 0 0) := by simp [sliceI, UNK]
  have f1 : firstI H 4 1 (.slice (some ⟨vb, 0, none⟩) 1 1) = some new := by simp [firstI, IHeap.loadL, hv, hn, List.take_of_length_le]
  have a1 : appendI H 4 32 (.slice none 0 0) 1 new = some (.slice (some ⟨H.next, 0, none⟩) 1 (UNK + 4), H.alloc (.cells new false)) := by simp [appendI, hn]
  simp -implicitDefEqProofs [c_slices_Insert_api_Use_api_Use, boundsI, natI, s0, lenOfI, f1, a1]
  exact hK

include hc hO in
theorem Ins_known {b cp n i vb : Nat} {L A B new : List Value} (hb : H.get b = some (.cells L false)) (hv : H.get vb = some (.cells new false)) (hne : vb ≠ b) (hvl : vb < H.next) (hbl : b < H.next) (hn : new.length = 4) (hn1 : new.all one1 = true)
    (hA : A.length = i * 4) (hB : B.length = (n - i) * 4) (hin : i ≤ n) (hnl : n ≤ 1000000) (hcp : n ≤ cp) (hcu : cp < UNK) (hL : L.take (A.length + B.length) = A ++ B) (hroom : cp = 0 ∨ cp * 4 ≤ L.length) (hone : (A ++ B).all one1 = true)
    (hK1 : ∀ L' H', n + 1 ≤ cp → L'.length = L.length → L'.take ((n + 1) * 4) = A ++ new ++ B → H'.next = H.next → H'.get b = some (.cells L' false) → (∀ x, x ≠ b → H'.get x = H.get x) → K (.slice (some ⟨b, 0, none⟩) (n + 1) cp) H')
    (hK2 : ∀ H', H.le H' → H'.next = H.next + 1 → H'.get H.next = some (.cells (A ++ new ++ B) false) → K (.slice (some ⟨H.next, 0, none⟩) (n + 1) (UNK + 4)) H') :
    c.C (c.F n_slices_Insert_api_Use_api_Use) [.slice (some ⟨b, 0, none⟩) n cp, .int .i64 i, .slice (some ⟨vb, 0, none⟩) 1 1] H K := by
  refine c.enter hc.slices_Insert_api_Use_api_Use rfl ?_
  have hAB : A.length + B.length = n * 4 := by rw [hA, hB]; omega
  obtain ⟨x0, hx0⟩ : ∃ x, sliceI H 4 (some ⟨b, 0, none⟩) n cp i n none = some x := by
    unfold sliceI
    rw [if_pos hcu, if_pos (by simp; omega)]
    exact ⟨_, rfl⟩
  have hi0 : (0 : Int) ≤ (i : Int) := by omega
  have f1 : firstI H 4 1 (.slice (some ⟨vb, 0, none⟩) 1 1) = some new := by simp [firstI, IHeap.loadL, hv, hn, List.take_of_length_le]
  by_cases hie : i = n
  · subst hie
    have hBn : B = [] := List.length_eq_zero_iff.1 (by rw [hB]; omega)
    subst hBn
    rw [List.append_nil] at hL hone hK1 hK2
    rw [List.length_nil, Nat.add_zero] at hL hAB
    by_cases hr : i + 1 ≤ cp
    · have hcl : cp * 4 ≤ L.length := hroom.resolve_left (by omega)
      obtain ⟨L1, hL1⟩ : ∃ L1, L1 = putAt L (i * 4) new := ⟨_, rfl⟩
      have a1 : appendI H 4 32 (.slice (some ⟨b, 0, none⟩) i cp) 1 new = some (.slice (some ⟨b, 0, none⟩) (i + 1) cp, H.set b (.cells L1 false)) := by
        simp only [appendI, IHeap.storeL, hb]
        rw [if_pos ⟨by omega, by omega, by omega, by omega, by omega⟩, if_neg (by omega), if_pos ⟨hcu, hr⟩, if_pos ⟨by omega, hn1⟩, hL1]
        simp
      simp -implicitDefEqProofs [c_slices_Insert_api_Use_api_Use, boundsI, natI, hx0, lenOfI, f1, a1]
      refine hK1 L1 _ hr (by rw [hL1]; exact put_len (by omega)) ?_ rfl (by rw [YW, if_pos rfl]) fun x hx => by rw [YW, if_neg hx]
      have := put_end (L := L) (F := A) (new := new) hL (by omega)
      rw [hA, hn] at this
      rw [show (i + 1) * 4 = i * 4 + 4 by omega, hL1]
      exact this
    · have f2 : firstI H 4 i (.slice (some ⟨b, 0, none⟩) i cp) = some A := by
        simp only [firstI, IHeap.loadL, hb]
        by_cases hz : i * 4 = 0
        · rw [if_pos hz]
          have : A = [] := List.length_eq_zero_iff.1 (by rw [hA]; exact hz)
          rw [this]
        · rw [if_neg hz, if_pos (by have := congrArg List.length hL; rw [List.length_take] at this; omega), List.drop_zero, ← hA, hL]
      have a1 : appendI H 4 32 (.slice (some ⟨b, 0, none⟩) i cp) 1 new = some (.slice (some ⟨H.next, 0, none⟩) (i + 1) (UNK + 4), H.alloc (.cells (A ++ new) false)) := by
        simp only [appendI, f2]
        rw [if_pos ⟨by omega, by omega, by omega, by omega, by omega⟩, if_neg (by omega), if_neg (by omega), if_pos hcu]
      simp -implicitDefEqProofs [c_slices_Insert_api_Use_api_Use, boundsI, natI, hx0, lenOfI, f1, a1]
      exact hK2 _ (H.le_alloc _) rfl (by rw [YV, if_pos rfl])
  · have hilt : i < n := by omega
    have hcl : cp * 4 ≤ L.length := hroom.resolve_left (by omega)
    have hieI : ¬ (i : Int) = (n : Int) := by omega
    have w1 : IntKind.i64.wrap ((n : Int) + 1) = (n : Int) + 1 := wrap64 (by omega) (by omega)
    have w2 : IntKind.i64.wrap ((i : Int) + 1) = (i : Int) + 1 := wrap64 (by omega) (by omega)
    have q1 : (0 : Int) ≤ (n : Int) + 1 := by omega
    have q2 : (0 : Int) ≤ (i : Int) + 1 := by omega
    have t1 : ((n : Int) + 1).toNat = n + 1 := by omega
    have t2 : ((i : Int) + 1).toNat = i + 1 := by omega
    have hLn : n * 4 ≤ L.length := by omega
    have hLA : (L.take A.length) = A := by
      have := congrArg (List.take A.length) hL
      rwa [List.take_take, Nat.min_eq_left (by omega), List.take_left] at this
    have hLB : (L.drop (i * 4)).take ((n - i) * 4) = B := by
      have := congrArg (List.drop A.length) hL
      rw [List.drop_left, List.drop_take, Nat.add_sub_cancel_left, hA, hB] at this
      exact this
    have hBn : 0 < (n - i) * 4 := by omega
    have hn1' : ∀ x ∈ new, one1 x = true := List.all_eq_true.1 hn1
    have hnn : ¬ new = [] := by intro e; rw [e] at hn; simp at hn
    have hBnn : ¬ B = [] := by intro e; rw [e] at hB; simp at hB; omega
    have hB1 : B.all one1 = true := by rw [List.all_append, Bool.and_eq_true] at hone; exact hone.2
    have hB1' : ∀ x ∈ B, one1 x = true := List.all_eq_true.1 hB1
    by_cases hr : n + 1 ≤ cp
    · have hrI : ¬ (cp : Int) < (n : Int) + 1 := by omega
      have s60 : sliceI H 4 (some ⟨b, 0, none⟩) n cp 0 (n + 1) none = some (.slice (some ⟨b, 0, none⟩) (n + 1) cp) := by
        unfold sliceI
        rw [if_pos hcu, if_pos (by simp; omega)]
        simp only [Option.getD_none, Nat.sub_zero]
        rw [if_neg (by omega)]
        simp [Addr.add]
      have sI : ∀ (X : IHeap) (k : Nat), k ≤ n → sliceI X 4 (some ⟨b, 0, none⟩) (n + 1) cp k (n + 1) none = some (.slice (some ⟨b, k * 4, none⟩) (n + 1 - k) (cp - k)) := by
        intro X k hk
        unfold sliceI
        rw [if_pos hcu, if_pos (by simp; omega)]
        simp only [Option.getD_none]
        rw [if_neg (by omega)]
        simp only [addr_add, Nat.zero_add]
      have s66 := sI H (i + 1) (by omega)
      have s76 := sI H i (by omega)
      have e1 : n + 1 - (i + 1) = n - i := by omega
      rw [e1] at s66
      have ii : i ≤ n + 1 := by omega
      have ii2 : i + 1 ≤ n + 1 := by omega
      have m1 : Nat.min (n + 1 - i) (n - i) = n - i := Nat.min_eq_right (by omega)
      have m2 : Nat.min 1 (n + 1 - i) = 1 := Nat.min_eq_left (by omega)
      have m1' : min (n + 1 - i) (n - i) = n - i := Nat.min_eq_right (by omega)
      have m2' : min 1 (n + 1 - i) = 1 := Nat.min_eq_left (by omega)
      have fB : firstI H 4 (n - i) (.slice (some ⟨b, i * 4, none⟩) (n + 1 - i) (cp - i)) = some B := by
        simp only [firstI, IHeap.loadL, hb]
        rw [if_neg (by omega), if_pos (by omega), hLB]
      have hBl : ¬ B.length = 0 := by omega
      have hnl0 : ¬ new.length = 0 := by omega
      obtain ⟨L1, hL1⟩ : ∃ L1, L1 = putAt L ((i + 1) * 4) B := ⟨_, rfl⟩
      have l1 : L1.length = L.length := by rw [hL1]; exact put_len (by omega)
      have st1 : H.storeL b ((i + 1) * 4) B = some (H.set b (.cells L1 false)) := by
        simp only [IHeap.storeL, hb]
        rw [if_pos ⟨by omega, hB1⟩, hL1]
      obtain ⟨H1, hH1⟩ : ∃ X : IHeap, X = H.set b (.cells L1 false) := ⟨_, rfl⟩
      rw [← hH1] at st1
      have g1 : H1.get b = some (.cells L1 false) := by rw [hH1, YW, if_pos rfl]
      have gv : H1.get vb = some (.cells new false) := by rw [hH1, YW, if_neg hne]; exact hv
      have f2 : firstI H1 4 1 (.slice (some ⟨vb, 0, none⟩) 1 1) = some new := by simp [firstI, IHeap.loadL, gv, hn, List.take_of_length_le]
      have s80 := sI H1 i (by omega)
      obtain ⟨L2, hL2⟩ : ∃ L2, L2 = putAt L1 (i * 4) new := ⟨_, rfl⟩
      have st2 : H1.storeL b (i * 4) new = some (H1.set b (.cells L2 false)) := by
        simp only [IHeap.storeL, g1]
        rw [if_pos ⟨by omega, hn1⟩, hL2]
      simp -implicitDefEqProofs [c_slices_Insert_api_Use_api_Use, boundsI, natI, hin, hx0, lenOfI, hie, hieI, w1, w2, hcu, hrI, q1, q2, t1, t2, s60, s66, ii, ii2]
      refine call_of (hO _ _ _ _ _ _ _ _ _ _ _ _ hne (by omega) (by omega) hv hb (by omega) (by intro e; rw [e] at hcl; simp at hcl; omega) ?_)
      have k1 : (i + 1) * 4 + B.length ≤ L.length := by omega
      have k2 : i * 4 + new.length ≤ L1.length := by omega
      have fo1 : List.take ((i + 1) * 4) L ++ (B ++ List.drop ((i + 1) * 4 + B.length) L) = L1 := by rw [hL1, putAt, List.append_assoc]
      have fo2 : List.take (i * 4) L1 ++ (new ++ List.drop (i * 4 + new.length) L1) = L2 := by rw [hL2, putAt, List.append_assoc]
      simp -implicitDefEqProofs [boundsI, natI, w2, q2, t2, s66, s76, ii, ii2, lenOfI, m1, m1', fB, hBnn, hb, k1, hB1, fo1, ← hH1, s80, m2, m2', f2, hnn, g1, k2, hn1, fo2, -List.all_eq_true]
      have nx : (H1.set b (.cells L2 false)).next = H.next := by rw [hH1]; rfl
      refine hK1 L2 _ hr (by rw [hL2, put_len (by omega), l1]) ?_ nx (by rw [YW, if_pos rfl]) fun x hx => by rw [YW, if_neg hx, hH1, YW, if_neg hx]
      have := put_mid (L := L) (A := A) (B := B) (new := new) hL (by omega)
      rw [hA, hn, hB, show i * 4 + 4 = (i + 1) * 4 by omega, ← hL1, ← hL2] at this
      rw [show (n + 1) * 4 = (i + 1) * 4 + (n - i) * 4 by omega]
      exact this
    · have hrI : (cp : Int) < (n : Int) + 1 := by omega
      have w3 : IntKind.i64.wrap ((n : Int) + 1 - (i : Int)) = (n : Int) + 1 - (i : Int) := wrap64 (by omega) (by omega)
      obtain ⟨kk, hkk⟩ : ∃ kk, kk = n + 1 - i := ⟨_, rfl⟩
      have c1 : (0 : Int) ≤ (n : Int) + 1 - (i : Int) := by omega
      have c2 : ((n : Int) + 1 - (i : Int)) * 32 ≤ 17592186044416 := by omega
      have c3 : (n : Int) + 1 - (i : Int) ≤ 17592186044416 := by omega
      have c4 : ((n : Int) + 1 - (i : Int)).toNat = kk := by omega
      have s34 : sliceI H 4 (some ⟨b, 0, none⟩) n cp 0 i none = some (.slice (some ⟨b, 0, none⟩) i cp) := by
        unfold sliceI
        rw [if_pos hcu, if_pos (by simp; omega)]
        simp only [Option.getD_none, Nat.sub_zero]
        rw [if_neg (by omega)]
        simp [Addr.add]
      obtain ⟨Z, hZ⟩ : ∃ Z, Z = (Builtin.zeroCells #[Value.int .i64 0, .int .i64 0, .int .i64 0, .int .i64 0] kk).toList := ⟨_, rfl⟩
      have hZl : Z.length = kk * 4 := by rw [hZ, Array.length_toList, zeroCells_size]; rfl
      have fA : firstI H 4 i (.slice (some ⟨b, 0, none⟩) i cp) = some A := by
        simp only [firstI, IHeap.loadL, hb]
        by_cases hz : i * 4 = 0
        · rw [if_pos hz]
          have : A = [] := List.length_eq_zero_iff.1 (by rw [hA]; exact hz)
          rw [this]
        · rw [if_neg hz, if_pos (by omega), List.drop_zero, ← hA, hLA]
      obtain ⟨H1, hH1⟩ : ∃ X : IHeap, X = H.alloc (.cells (A ++ Z) false) := ⟨_, rfl⟩
      have a1 : appendI H 4 32 (.slice (some ⟨b, 0, none⟩) i cp) kk Z = some (.slice (some ⟨H.next, 0, none⟩) (n + 1) (UNK + 4), H1) := by
        simp only [appendI, fA]
        rw [if_pos ⟨by omega, by omega, by omega, by omega, by omega⟩, if_neg (by omega), if_neg (by omega), if_pos hcu, hH1, show i + kk = n + 1 by omega]
      have g1 : H1.get H.next = some (.cells (A ++ Z) false) := by rw [hH1, YV, if_pos rfl]
      have gb1 : H1.get b = some (.cells L false) := by rw [hH1, YV, if_neg (by omega)]; exact hb
      have gv1 : H1.get vb = some (.cells new false) := by rw [hH1, YV, if_neg (by omega)]; exact hv
      have sG : ∀ (X : IHeap) (k : Nat), k ≤ n → sliceI X 4 (some ⟨H.next, 0, none⟩) (n + 1) (UNK + 4) k (n + 1) none = some (.slice (some ⟨H.next, k * 4, none⟩) (n + 1 - k) (UNK + 4)) := by
        intro X k hk
        unfold sliceI
        rw [if_neg (by omega)]
        simp
      have s43 := sG H1 i (by omega)
      have f1' : firstI H1 4 1 (.slice (some ⟨vb, 0, none⟩) 1 1) = some new := by simp [firstI, IHeap.loadL, gv1, hn, List.take_of_length_le]
      obtain ⟨L1, hL1⟩ : ∃ L1, L1 = putAt (A ++ Z) (i * 4) new := ⟨_, rfl⟩
      have l1 : L1.length = (n + 1) * 4 := by rw [hL1, put_len (by rw [List.length_append]; omega), List.length_append]; omega
      obtain ⟨H2, hH2⟩ : ∃ X : IHeap, X = H1.set H.next (.cells L1 false) := ⟨_, rfl⟩
      have st1 : H1.storeL H.next (i * 4) new = some H2 := by
        simp only [IHeap.storeL, g1]
        rw [if_pos ⟨by rw [List.length_append]; omega, hn1⟩, hH2, hL1]
      have g2 : H2.get H.next = some (.cells L1 false) := by rw [hH2, YW, if_pos rfl]
      have gb2 : H2.get b = some (.cells L false) := by rw [hH2, YW, if_neg (by omega)]; exact gb1
      have s50 := sG H2 (i + 1) (by omega)
      rw [show n + 1 - (i + 1) = n - i by omega] at s50
      have s53 : sliceI H2 4 (some ⟨b, 0, none⟩) n cp i n none = some (.slice (some ⟨b, i * 4, none⟩) (n - i) (cp - i)) := by
        unfold sliceI
        rw [if_pos hcu, if_pos (by simp; omega)]
        simp only [Option.getD_none]
        rw [if_neg (by omega)]
        simp only [addr_add, Nat.zero_add]
      have fB : firstI H2 4 (n - i) (.slice (some ⟨b, i * 4, none⟩) (n - i) (cp - i)) = some B := by
        simp only [firstI, IHeap.loadL, gb2]
        rw [if_neg (by omega), if_pos (by omega), hLB]
      obtain ⟨L2, hL2⟩ : ∃ L2, L2 = putAt L1 ((i + 1) * 4) B := ⟨_, rfl⟩
      have st2 : H2.storeL H.next ((i + 1) * 4) B = some (H2.set H.next (.cells L2 false)) := by
        simp only [IHeap.storeL, g2]
        rw [if_pos ⟨by omega, hB1⟩, hL2]
      have ii : i ≤ n + 1 := by omega
      have ii2 : i + 1 ≤ n + 1 := by omega
      have m1 : Nat.min (n - i) (n - i) = n - i := Nat.min_self _
      have m2 : Nat.min 1 (n + 1 - i) = 1 := Nat.min_eq_left (by omega)
      have m2' : min 1 (n + 1 - i) = 1 := Nat.min_eq_left (by omega)
      have hBl : ¬ B.length = 0 := by omega
      have hnl0 : ¬ new.length = 0 := by omega
      have hE : L2 = A ++ new ++ B := by
        have e1 : L1 = A ++ new ++ Z.drop 4 := by
          rw [hL1]
          unfold putAt
          rw [← hA, List.take_left, List.drop_append, List.drop_of_length_le (by omega), hn, Nat.add_sub_cancel_left]
          simp
        have l3 : L2.length = L1.length := by rw [hL2]; exact put_len (by omega)
        rw [hL2]
        unfold putAt
        have e2 : (i + 1) * 4 = (A ++ new).length := by rw [List.length_append]; omega
        rw [List.drop_of_length_le (by omega), List.append_nil, e2]
        conv => lhs; rw [e1]
        rw [List.take_left]
      have c1' : (i : Int) ≤ (n : Int) + 1 := by omega
      have hAZ : (A ++ Z).length = (n + 1) * 4 := by rw [List.length_append]; omega
      obtain ⟨Y, hY⟩ : ∃ Y, Y = A ++ Z := ⟨_, rfl⟩
      rw [← hY] at g1 hL1 hAZ
      have k1 : i * 4 + new.length ≤ Y.length := by omega
      have k2 : (i + 1) * 4 + B.length ≤ L1.length := by omega
      have fo1 : List.take (i * 4) Y ++ (new ++ List.drop (i * 4 + new.length) Y) = L1 := by rw [hL1, putAt, List.append_assoc]
      have fo2 : List.take ((i + 1) * 4) L1 ++ (B ++ List.drop ((i + 1) * 4 + B.length) L1) = L2 := by rw [hL2, putAt, List.append_assoc]
      simp -implicitDefEqProofs [c_slices_Insert_api_Use_api_Use, boundsI, natI, hin, hx0, lenOfI, hie, hieI, w1, w2, w3, hcu, hrI, s34, c1, c1', c2, c3, c4, ← hZ, a1, s43, ii, q2, t2, m2, m2', f1', hnn, g1, k1, hn1, fo1, ← hH2, ii2, s50, s53, m1, fB, hBnn, g2, k2, hB1, fo2, -List.all_eq_true]
      refine hK2 _ (by rw [hH2, hH1]; exact ((H.le_alloc _).set (Nat.le_refl _) _).set (Nat.le_refl _) _) (by rw [hH2, hH1]; rfl) (by rw [YW, if_pos rfl, hE])

end
end Go.Proofs.YtndndcdblfejnaaGreatRI
namespace Go.Proofs.YtndndcdblfejnaaGreatRI
set_option linter.unusedSimpArgs false
set_option linter.unusedVariables false
open Go

/-- An own slice, with room behind it maybe. -/
def VS (H : IHeap) (q : Nat) (u : Value) (rows : List (List Value)) : Prop := (rows = [] ∧ u = .slice none 0 0) ∨ ∃ cs, q < H.next ∧ u = .slice (some ⟨q, 0, none⟩) rows.length (UNK + 4) ∧ H.get q = some (.cells cs false) ∧ cs.take (rows.length * 4) = rows.flatten ∧ rows.length * 4 ≤ cs.length
theorem VS.upd {H H' : IHeap} {S : List Nat} {q : Nat} {u : Value} {rows : List (List Value)} (h : VS H q u rows) (hu : IHeap.upd S H H') (hq : q ∉ S) : VS H' q u rows := by
  rcases h with h | ⟨cs, a, b, c, d, e⟩
  · exact .inl h
  · exact .inr ⟨cs, Nat.lt_of_lt_of_le a hu.next, b, (hu.get q a hq).trans c, d, e⟩
theorem VS.le {H H' : IHeap} {q : Nat} {u : Value} {rows : List (List Value)} (h : VS H q u rows) (hu : H.le H') : VS H' q u rows := h.upd (hu.upd []) (by simp)
theorem VS.slw {H : IHeap} {q : Nat} {u : Value} {rows : List (List Value)} (h : VS H q u rows) (h4 : ∀ r ∈ rows, r.length = 4) : SlW H 4 u rows := by
  rcases h with ⟨rfl, rfl⟩ | ⟨cs, a, rfl, c, d, e⟩
  · exact SlW.nil H 4
  · refine ⟨⟨_, _, rfl, fun _ => ⟨q, 0, cs, false, rfl, a, c, fun i r hr => ?_⟩⟩, _, _, rfl, .inr ⟨_, _, rfl⟩, .inr ⟨rfl, by simp⟩⟩
    obtain ⟨f1, f2⟩ := flat_row rows 4 i r h4 hr
    have hfl := flat_len rows 4 h4
    refine ⟨h4 r (List.mem_of_getElem? hr), ?_, by omega⟩
    rw [← f1, ← d, Nat.zero_add, List.drop_take, List.take_take, Nat.min_eq_left (by omega)]
theorem VS.lenv {H : IHeap} {q : Nat} {u : Value} {rows : List (List Value)} (h : VS H q u rows) : ∃ a cap, u = .slice a rows.length cap := by
  rcases h with ⟨rfl, rfl⟩ | ⟨cs, _, rfl, _⟩
  · exact ⟨_, _, rfl⟩
  · exact ⟨_, _, rfl⟩

theorem flat_split (rows : List (List Value)) (i : Nat) : rows.flatten = (rows.take i).flatten ++ (rows.drop i).flatten := by
  conv => lhs; rw [← List.take_append_drop i rows]
  rw [List.flatten_append]

section
variable (c c0 : Ctx) (hc : HasUse c0) (hO : ∀ (H : IHeap) (K : Value → IHeap → Prop) (b1 o1 n1 c1 b2 o2 n2 c2 : Nat) (cs1 cs2 : List Value), b1 ≠ b2 → 0 < n1 → 0 < n2 → H.get b1 = some (.cells cs1 false) → H.get b2 = some (.cells cs2 false) → o1 ≤ cs1.length → cs2 ≠ [] → K (.bool false) H →
  c0.C (c0.F 257) [.slice (some ⟨b1, o1, none⟩) n1 c1, .slice (some ⟨b2, o2, none⟩) n2 c2] H K)
  (hX : ∀ (s : Value) (r : List Value) (H : IHeap) (K : Value → IHeap → Prop), Reveal H 4 s (fun t H1 => c0.C (c0.F n_slices_Insert_api_Use_api_Use) (t :: r) H1 fun v H2 => Hide H2 4 v K) → c.C (c.F n_slices_Insert_api_Use_api_Use) (s :: r) H K)
  {H : IHeap} {K : Value → IHeap → Prop}

include hc hO hX in
theorem Ins_ok {q vb i : Nat} {u : Value} {rows : List (List Value)} {new : List Value} (hu : VS H q u rows) (h4 : ∀ r ∈ rows, r.length = 4) (hone : rows.flatten.all one1 = true)
    (hv : H.get vb = some (.cells new false)) (hvl : vb < H.next) (hne : vb ≠ q) (hn : new.length = 4) (hn1 : new.all one1 = true) (hi : i ≤ rows.length) (hl : rows.length ≤ 1000000)
    (hK : ∀ q' H', IHeap.upd [q] H H' → H.next ≤ q' → VS H' q' (.slice (some ⟨q', 0, none⟩) (rows.length + 1) (UNK + 4)) (rows.take i ++ new :: rows.drop i) → K (.slice (some ⟨q', 0, none⟩) (rows.length + 1) (UNK + 4)) H') :
    c.C (c.F n_slices_Insert_api_Use_api_Use) [u, .int .i64 i, .slice (some ⟨vb, 0, none⟩) 1 1] H K := by
  refine hX u _ H K ?_
  have hlen : (rows.take i ++ new :: rows.drop i).length = rows.length + 1 := by simp; omega
  have hflat : (rows.take i ++ new :: rows.drop i).flatten = (rows.take i).flatten ++ new ++ (rows.drop i).flatten := by rw [List.flatten_append, List.flatten_cons, List.append_assoc]
  have hA : ((rows.take i).flatten).length = i * 4 := by rw [flat_len _ 4 fun r hr => h4 r (List.mem_of_mem_take hr), List.length_take]; omega
  have hB : ((rows.drop i).flatten).length = (rows.length - i) * 4 := by rw [flat_len _ 4 fun r hr => h4 r (List.mem_of_mem_drop hr), List.length_drop]
  have hall : ((rows.take i).flatten ++ new ++ (rows.drop i).flatten).length = (rows.length + 1) * 4 := by simp only [List.length_append]; omega
  rcases hu with ⟨rfl, rfl⟩ | ⟨cs, hq, rfl, hg, hcs, hcl⟩
  · refine .inl ⟨rfl, ?_⟩
    have hi0 : i = 0 := by simpa using hi
    subst hi0
    refine Ins_nil c0 hc hv hn (.inl (hK H.next _ ((H.le_alloc _).upd _) (Nat.le_refl _) (.inr ⟨new, by simp [YX], rfl, by rw [YV, if_pos rfl], by simp [hn, List.take_of_length_le], by simp [hn]⟩)))
  · refine .inr ⟨q, 0, rows.length, cs, rfl, hg, fun cp junk hcp hcu hroom => ?_⟩
    have hR : ∀ x, x < H.next → x ≠ q → ((H.set q .dead).alloc (.cells (cs ++ junk) false)).get x = H.get x := fun x h1 h2 => by
      rw [YV, YY, if_neg (by omega), YW, if_neg h2]
    have hRn : ((H.set q .dead).alloc (.cells (cs ++ junk) false)).next = H.next + 1 := rfl
    have hRg : ((H.set q .dead).alloc (.cells (cs ++ junk) false)).get H.next = some (.cells (cs ++ junk) false) := by rw [YV, YY, if_pos rfl]
    obtain ⟨HR, hHR⟩ : ∃ X : IHeap, X = (H.set q .dead).alloc (.cells (cs ++ junk) false) := ⟨_, rfl⟩
    rw [← hHR] at hR hRn hRg ⊢
    refine Ins_known c0 hc hO (A := (rows.take i).flatten) (B := (rows.drop i).flatten) hRg ((hR vb hvl hne).trans hv) (by omega) (by omega) (by omega) hn hn1 hA hB hi hl hcp hcu ?_ (hroom.imp id fun h => by omega) (by rw [← flat_split]; exact hone) (fun L' H' hr hL1 hL2 hnx hgb hoth => ?_) (fun H' hle hnx hgn => ?_)
    · rw [← flat_split, ← hcs, hA, hB, show i * 4 + (rows.length - i) * 4 = rows.length * 4 by omega, List.take_append_of_le_length hcl]
    · have hcl2 : 0 + cp * 4 ≤ (cs ++ junk).length := hroom.resolve_left (by omega)
      refine .inr ⟨H.next, 0, rows.length + 1, cp, L', rfl, hcu, hgb, hr, by omega, ?_⟩
      rw [hnx, hRn]
      refine hK (H.next + 1) _ ⟨by simp only [YX, YY]; omega, fun x h1 h2 => ?_⟩ (by omega) (.inr ⟨_, by simp only [YX, YY]; omega, by rw [hlen], by rw [YV, YY, if_pos (by omega)], ?_, ?_⟩)
      · simp only [List.mem_singleton] at h2
        rw [YV, YY, if_neg (by omega), YW, if_neg (by omega), hoth x (by omega), hR x h1 h2]
      · rw [hlen, List.drop_zero, List.take_take, Nat.min_self, hL2, hflat]
      · rw [hlen, List.drop_zero, hL2, hall]; exact Nat.le_refl _
    · rw [hRn] at hgn ⊢
      refine .inl (hK (H.next + 1) H' ⟨by have := hle.next; omega, fun x h1 h2 => ?_⟩ (by omega) (.inr ⟨_, by omega, by rw [hlen], hgn, ?_, ?_⟩))
      · simp only [List.mem_singleton] at h2
        rw [hle.get x (by omega), hR x h1 h2]
      · rw [hlen, hflat, List.take_of_length_le (by omega)]
      · rw [hlen, hall]; exact Nat.le_refl _

end
end Go.Proofs.YtndndcdblfejnaaGreatRI
namespace Go.Proofs.YtndndcdblfejnaaGreatRI
set_option linter.unusedSimpArgs false
set_option linter.unusedVariables false
open Go

def Fresh (n : Nat) (v : Value) : Prop := ∀ b o m c, v = .slice (some ⟨b, o, none⟩) m c → n ≤ b
theorem Fresh.nil (n : Nat) : Fresh n (.slice none 0 0) := fun b o m c e => by simp at e
theorem Fresh.weak {n m : Nat} {v : Value} (h : Fresh m v) (hn : n ≤ m) : Fresh n v := fun b o x c e => Nat.le_trans hn (h b o x c e)
/-- Where a slice lies. -/
def Blk (n m : Nat) (v : Value) : Prop := ∀ b o l c, v = .slice (some ⟨b, o, none⟩) l c → n ≤ b ∧ b < m
theorem Blk.weak {n n' m m' : Nat} {v : Value} (h : Blk n m v) (h1 : n' ≤ n) (h2 : m ≤ m') : Blk n' m' v := fun b o l c e => by have := h b o l c e; omega
theorem Blk.nil (n m : Nat) : Blk n m (.slice none 0 0) := fun b o l c e => by simp at e
theorem Grow.blk {H : IHeap} {B size : Nat} {v : Value} {rows : List (List Value)} (h : Grow H B size v rows) : Blk B H.next v := by
  intro b o m cc e
  rcases h with ⟨_, rfl⟩ | ⟨_, blk, q1, q2, rfl, _⟩
  · simp at e
  · simp only [Value.slice.injEq, Option.some.injEq, Addr.mk.injEq] at e
    omega
def inB (u : Value) (b : Nat) : Prop := ∃ o m c, u = .slice (some ⟨b, o, none⟩) m c ∧ m ≠ 0
theorem inB_nil (b : Nat) : ¬ inB (.slice none 0 0) b := fun ⟨_, _, _, e, _⟩ => by simp at e
theorem SlW.in {H : IHeap} {size : Nat} {u : Value} {rows : List (List Value)} (h : SlW H size u rows) {b : Nat} (hb : inB u b) : b < H.next := by
  obtain ⟨o, m, c, rfl, hm⟩ := hb
  obtain ⟨⟨a', cap', e, h2⟩, _⟩ := h
  simp only [Value.slice.injEq] at e
  obtain ⟨rfl, rfl, rfl⟩ := e
  obtain ⟨b', o', cs, ro, e, hb, _⟩ := h2 (fun e => hm (by rw [e]; rfl))
  simp only [Option.some.injEq, Addr.mk.injEq] at e
  omega
theorem SlW.kept {H H' : IHeap} {size : Nat} {u : Value} {rows : List (List Value)} (h : SlW H size u rows) (hn : H.next ≤ H'.next) (hk : ∀ b, inB u b → H'.get b = H.get b) : SlW H' size u rows := by
  obtain ⟨⟨a, cap, rfl, h2⟩, h3⟩ := h
  refine ⟨⟨a, cap, rfl, fun hr => ?_⟩, h3⟩
  obtain ⟨b, o, cs, ro, rfl, hb, hget, hrow⟩ := h2 hr
  exact ⟨b, o, cs, ro, rfl, by omega, (hk b ⟨o, _, _, rfl, fun e => hr (List.length_eq_zero_iff.1 e)⟩).trans hget, hrow⟩
theorem Blk.in {n m : Nat} {u : Value} (h : Blk n m u) {b : Nat} (hb : inB u b) : n ≤ b ∧ b < m := by
  obtain ⟨o, l, c, e, _⟩ := hb
  exact h b o l c e
theorem Fresh.in {n : Nat} {u : Value} (h : Fresh n u) {b : Nat} (hb : inB u b) : n ≤ b := by
  obtain ⟨o, l, c, e, _⟩ := hb
  exact h b o l c e
/-- What is known of S stays. -/
def keptS (S : Nat → Prop) (H H' : IHeap) : Prop := H.next ≤ H'.next ∧ ∀ b, S b → H'.get b = H.get b
theorem keptS.trans {S : Nat → Prop} {A B C : IHeap} (h : keptS S A B) (k : keptS S B C) : keptS S A C := ⟨Nat.le_trans h.1 k.1, fun b hb => (k.2 b hb).trans (h.2 b hb)⟩

end Go.Proofs.YtndndcdblfejnaaGreatRI
