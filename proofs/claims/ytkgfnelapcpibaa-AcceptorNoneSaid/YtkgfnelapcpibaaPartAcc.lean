/- PRINTED by gen.py (this session's own): the intermediate form of some functions, and a context's having them. -/
import Derived.Test.YtkgfnelapcpibaaIdealZ
namespace Go.Proofs.YtkgfnelapcpibaaI
set_option linter.unusedSimpArgs false
set_option linter.unusedVariables false
open Go

/-- hurdle/acceptor.New -/
abbrev n_acceptor_New : Nat := 177
/-- (*hurdle/acceptor.Acceptor).find -/
abbrev n_acceptor_Acceptor_find : Nat := 178
/-- (*hurdle/acceptor.Acceptor).find$1 -/
abbrev n_acceptor_Acceptor_find_F1 : Nat := 179
/-- (*hurdle/acceptor.Acceptor).may -/
abbrev n_acceptor_Acceptor_may : Nat := 180
/-- (*hurdle/acceptor.Acceptor).Promise -/
abbrev n_acceptor_Acceptor_Promise : Nat := 181
/-- (*hurdle/acceptor.Acceptor).Accept -/
abbrev n_acceptor_Acceptor_Accept : Nat := 182
/-- (*hurdle/acceptor.Acceptor).Trim -/
abbrev n_acceptor_Acceptor_Trim : Nat := 183
/-- (*hurdle/acceptor.Acceptor).Promised -/
abbrev n_acceptor_Acceptor_Promised : Nat := 184
/-- (*hurdle/acceptor.Acceptor).Votes -/
abbrev n_acceptor_Acceptor_Votes : Nat := 185
/-- (*hurdle/acceptor.Acceptor).Base -/
abbrev n_acceptor_Acceptor_Base : Nat := 186
/-- slices.Insert[[]hurdle/api.Vote,hurdle/api.Vote] -/
abbrev n_slices_Insert_api_Vote_api_Vote : Nat := 187
/-- slices.Clone[[]hurdle/api.Vote,hurdle/api.Vote] -/
abbrev n_slices_Clone_api_Vote_api_Vote : Nat := 188
/-- slices.BinarySearchFunc[[]hurdle/api.Vote,hurdle/api.Vote,int] -/
abbrev n_slices_BinarySearchFunc_api_Vote_api_Vote_int : Nat := 189
/-- hurdle/acceptor.New -/
def c_acceptor_New (F : Nat → FuncId) (Ty : Nat → TypeId) : IFunc := ⟨3, [.tmp 0],
 .seq (.ops [⟨some 0, .move (.const (.pointer none)), none⟩])
 (.seq (.ops [⟨some 1, .build [.int .i64 0, .int .i64 0, .int .i64 0, .slice none 0 0] [], none⟩,
 ⟨some 2, .box (.tmp 1), none⟩,
 ⟨some 0, .move (.tmp 2), none⟩])
 (.ret))⟩
/-- (*hurdle/acceptor.Acceptor).find -/
def c_acceptor_Acceptor_find (F : Nat → FuncId) (Ty : Nat → TypeId) : IFunc := ⟨14, [.tmp 4, .tmp 5],
 .seq (.ops [⟨some 4, .move (.const (.int .i64 0)), none⟩,
 ⟨some 5, .move (.const (.bool false)), none⟩])
 (.seq (.ops [⟨some 6, .move (.tmp 0), none⟩,
 ⟨some 7, .nilCheck (.tmp 6), none⟩,
 ⟨some 8, .fieldAddr 3 (.tmp 7), none⟩,
 ⟨some 9, .load1 (.tmp 8), none⟩,
 ⟨some 10, .move (.tmp 1), none⟩,
 ⟨some 11, .call (F 189) [.tmp 9, .tmp 10, .func (F 179)], none⟩,
 ⟨some 12, .extract (.tmp 11) 0, none⟩,
 ⟨some 13, .extract (.tmp 11) 1, none⟩,
 ⟨some 4, .move (.tmp 12), none⟩,
 ⟨some 5, .move (.tmp 13), none⟩])
 (.ret))⟩
/-- (*hurdle/acceptor.Acceptor).find$1 -/
def c_acceptor_Acceptor_find_F1 (F : Nat → FuncId) (Ty : Nat → TypeId) : IFunc := ⟨15, [.tmp 4],
 .seq (.ops [⟨some 2, .box (.tmp 0), none⟩,
 ⟨some 4, .move (.const (.int .i64 0)), none⟩])
 (.seq (.block 0 (.seq (.ops [⟨some 6, .fieldAddr 0 (.tmp 2), none⟩,
 ⟨some 7, .load1 (.tmp 6), none⟩,
 ⟨some 8, .move (.tmp 1), none⟩,
 ⟨some 9, .bin .lss (.tmp 7) (.tmp 8), none⟩,
 ⟨some 5, .move (.tmp 9), none⟩])
 (.cond (.tmp 5)
 (.seq (.ops [⟨some 4, .move (.const (.int .i64 (-1))), none⟩])
 (.ret))
 (.seq (.ops [⟨some 11, .fieldAddr 0 (.tmp 2), none⟩,
 ⟨some 12, .load1 (.tmp 11), none⟩,
 ⟨some 13, .move (.tmp 1), none⟩,
 ⟨some 14, .bin .gtr (.tmp 12) (.tmp 13), none⟩,
 ⟨some 10, .move (.tmp 14), none⟩])
 (.cond (.tmp 10)
 (.seq (.ops [⟨some 4, .move (.const (.int .i64 1)), none⟩])
 (.ret))
 (.skip))))))
 (.seq (.ops [⟨some 4, .move (.const (.int .i64 0)), none⟩])
 (.ret)))⟩
/-- (*hurdle/acceptor.Acceptor).may -/
def c_acceptor_Acceptor_may (F : Nat → FuncId) (Ty : Nat → TypeId) : IFunc := ⟨20, [.tmp 4],
 .seq (.ops [⟨some 3, .box (.tmp 1), none⟩,
 ⟨some 4, .move (.const (.bool false)), none⟩])
 (.seq (.draw [(⟨some 5, .move (.tmp 0), none⟩, []),
 (⟨some 6, .eqNil 0 true (.tmp 5), none⟩, []),
 (⟨some 7, .move (.tmp 6), none⟩, []),
 (⟨some 8, .loadN 2 (.tmp 3), some (7, true)⟩, []),
 (⟨some 9, .call (F 5) [.tmp 8], some (7, true)⟩, []),
 (⟨some 10, .pick (.tmp 7) (.tmp 9) (.const (.bool false)), none⟩, []),
 (⟨some 11, .move (.tmp 10), none⟩, []),
 (⟨some 12, .loadN 2 (.tmp 3), some (11, true)⟩, []),
 (⟨some 13, .move (.tmp 0), some (11, true)⟩, []),
 (⟨some 14, .nilCheck (.tmp 13), some (11, true)⟩, []),
 (⟨some 15, .fieldAddr 0 (.tmp 14), some (11, true)⟩, []),
 (⟨some 16, .loadN 2 (.tmp 15), some (11, true)⟩, []),
 (⟨some 17, .call (F 4) [.tmp 12, .tmp 16], some (11, true)⟩, []),
 (⟨some 18, .bin .geq (.tmp 17) (.const (.int .i64 0)), some (11, true)⟩, []),
 (⟨some 19, .pick (.tmp 11) (.tmp 18) (.const (.bool false)), none⟩, []),
 (⟨some 4, .move (.tmp 19), none⟩, [])])
 (.ret))⟩
/-- (*hurdle/acceptor.Acceptor).Promise -/
def c_acceptor_Acceptor_Promise (F : Nat → FuncId) (Ty : Nat → TypeId) : IFunc := ⟨27, [.tmp 6, .tmp 7],
 .seq (.ops [⟨some 4, .box (.tmp 1), none⟩,
 ⟨some 6, .move (.const (.slice none 0 0)), none⟩,
 ⟨some 7, .move (.const (.bool false)), none⟩])
 (.seq (.seq (.ops [⟨some 8, .move (.tmp 0), none⟩,
 ⟨some 9, .loadN 2 (.tmp 4), none⟩,
 ⟨some 10, .call (F 180) [.tmp 8, .tmp 9], none⟩,
 ⟨some 11, .un .not (.tmp 10), none⟩,
 ⟨some 12, .move (.tmp 11), none⟩,
 ⟨some 13, .move (.tmp 2), some (12, false)⟩,
 ⟨some 14, .move (.tmp 0), some (12, false)⟩,
 ⟨some 15, .nilCheck (.tmp 14), some (12, false)⟩,
 ⟨some 16, .fieldAddr 2 (.tmp 15), some (12, false)⟩,
 ⟨some 17, .load1 (.tmp 16), some (12, false)⟩,
 ⟨some 18, .bin .lss (.tmp 13) (.tmp 17), some (12, false)⟩,
 ⟨some 19, .pick (.tmp 12) (.const (.bool true)) (.tmp 18), none⟩])
 (.cond (.tmp 19)
 (.seq (.ops [⟨some 6, .move (.const (.slice none 0 0)), none⟩,
 ⟨some 7, .move (.const (.bool false)), none⟩])
 (.ret))
 (.skip)))
 (.seq (.ops [⟨some 20, .move (.tmp 0), none⟩,
 ⟨some 21, .loadN 2 (.tmp 4), none⟩,
 ⟨some 22, .nilCheck (.tmp 20), none⟩,
 ⟨some 23, .fieldAddr 0 (.tmp 22), none⟩,
 ⟨none, .store 2 (.tmp 23) (.tmp 21), none⟩])
 (.seq (.ops [⟨some 24, .move (.tmp 0), none⟩,
 ⟨some 25, .move (.tmp 2), none⟩,
 ⟨some 26, .call (F 185) [.tmp 24, .tmp 25], none⟩,
 ⟨some 6, .move (.tmp 26), none⟩,
 ⟨some 7, .move (.const (.bool true)), none⟩])
 (.ret))))⟩
/-- (*hurdle/acceptor.Acceptor).Accept -/
def c_acceptor_Acceptor_Accept (F : Nat → FuncId) (Ty : Nat → TypeId) : IFunc := ⟨63, [.tmp 4],
 .seq (.ops [⟨some 3, .box (.tmp 1), none⟩,
 ⟨some 4, .move (.const (.bool false)), none⟩])
 (.seq (.seq (.draw [(⟨some 7, .move (.tmp 0), none⟩, []),
 (⟨some 8, .fieldAddr 1 (.tmp 3), none⟩, []),
 (⟨some 9, .loadN 2 (.tmp 8), none⟩, []),
 (⟨some 10, .call (F 180) [.tmp 7, .tmp 9], none⟩, []),
 (⟨some 11, .un .not (.tmp 10), none⟩, []),
 (⟨some 12, .move (.tmp 11), none⟩, []),
 (⟨some 13, .fieldAddr 0 (.tmp 3), some (12, false)⟩, []),
 (⟨some 14, .load1 (.tmp 13), some (12, false)⟩, []),
 (⟨some 15, .move (.tmp 0), some (12, false)⟩, []),
 (⟨some 16, .nilCheck (.tmp 15), some (12, false)⟩, []),
 (⟨some 17, .fieldAddr 2 (.tmp 16), some (12, false)⟩, []),
 (⟨some 18, .load1 (.tmp 17), some (12, false)⟩, []),
 (⟨some 19, .bin .lss (.tmp 14) (.tmp 18), some (12, false)⟩, []),
 (⟨some 20, .pick (.tmp 12) (.const (.bool true)) (.tmp 19), none⟩, []),
 (⟨some 21, .move (.tmp 20), none⟩, []),
 (⟨some 22, .fieldAddr 0 (.tmp 3), some (21, false)⟩, []),
 (⟨some 23, .load1 (.tmp 22), some (21, false)⟩, []),
 (⟨some 24, .bin .geq (.tmp 23) (.const (.int .i64 1024)), some (21, false)⟩, []),
 (⟨some 25, .pick (.tmp 21) (.const (.bool true)) (.tmp 24), none⟩, []),
 (⟨some 26, .move (.tmp 25), none⟩, []),
 (⟨some 27, .fieldAddr 3 (.tmp 3), some (26, false)⟩, []),
 (⟨some 28, .load1 (.tmp 27), some (26, false)⟩, []),
 (⟨some 29, .strLen (.tmp 28), some (26, false)⟩, []),
 (⟨some 30, .bin .gtr (.tmp 29) (.const (.int .i64 4096)), some (26, false)⟩, []),
 (⟨some 31, .pick (.tmp 26) (.const (.bool true)) (.tmp 30), none⟩, [])])
 (.cond (.tmp 31)
 (.seq (.ops [⟨some 4, .move (.const (.bool false)), none⟩])
 (.ret))
 (.skip)))
 (.seq (.ops [⟨some 32, .move (.tmp 0), none⟩,
 ⟨some 33, .fieldAddr 1 (.tmp 3), none⟩,
 ⟨some 34, .loadN 2 (.tmp 33), none⟩,
 ⟨some 35, .nilCheck (.tmp 32), none⟩,
 ⟨some 36, .fieldAddr 0 (.tmp 35), none⟩,
 ⟨none, .store 2 (.tmp 36) (.tmp 34), none⟩])
 (.seq (.ops [⟨some 38, .move (.tmp 0), none⟩,
 ⟨some 39, .fieldAddr 0 (.tmp 3), none⟩,
 ⟨some 40, .load1 (.tmp 39), none⟩,
 ⟨some 41, .call (F 178) [.tmp 38, .tmp 40], none⟩,
 ⟨some 37, .move (.tmp 41), none⟩,
 ⟨some 42, .extract (.tmp 37) 0, none⟩,
 ⟨some 43, .extract (.tmp 37) 1, none⟩,
 ⟨some 5, .move (.tmp 42), none⟩,
 ⟨some 6, .move (.tmp 43), none⟩])
 (.seq (.seq (.ops [⟨some 44, .move (.tmp 6), none⟩])
 (.cond (.tmp 44)
 (.draw [(⟨some 45, .move (.tmp 0), none⟩, []),
 (⟨some 46, .nilCheck (.tmp 45), none⟩, []),
 (⟨some 47, .fieldAddr 3 (.tmp 46), none⟩, []),
 (⟨some 48, .load1 (.tmp 47), none⟩, []),
 (⟨some 49, .move (.tmp 5), none⟩, []),
 (⟨some 50, .loadN 4 (.tmp 3), none⟩, []),
 (⟨some 51, .idxSl 4 (.tmp 48) (.tmp 49), none⟩, []),
 (⟨none, .store 4 (.tmp 51) (.tmp 50), none⟩, [])])
 (.draw [(⟨some 52, .move (.tmp 0), none⟩, []),
 (⟨some 53, .move (.tmp 0), none⟩, []),
 (⟨some 54, .nilCheck (.tmp 53), none⟩, []),
 (⟨some 55, .fieldAddr 3 (.tmp 54), none⟩, []),
 (⟨some 56, .load1 (.tmp 55), none⟩, []),
 (⟨some 57, .move (.tmp 5), none⟩, []),
 (⟨some 58, .loadN 4 (.tmp 3), none⟩, []),
 (⟨some 59, .buildSlice 1 [.int .i64 0, .int .i64 0, .int .i64 0, .string ⟨#[]⟩] [((0, 4), .tmp 58)], none⟩, []),
 (⟨some 60, .call (F 187) [.tmp 56, .tmp 57, .tmp 59], none⟩, []),
 (⟨some 61, .nilCheck (.tmp 52), none⟩, []),
 (⟨some 62, .fieldAddr 3 (.tmp 61), none⟩, []),
 (⟨none, .store 1 (.tmp 62) (.tmp 60), none⟩, [])])))
 (.seq (.ops [⟨some 4, .move (.const (.bool true)), none⟩])
 (.ret))))))⟩
/-- (*hurdle/acceptor.Acceptor).Trim -/
def c_acceptor_Acceptor_Trim (F : Nat → FuncId) (Ty : Nat → TypeId) : IFunc := ⟨54, [.tmp 4],
 .seq (.ops [⟨some 4, .move (.const (.int .i64 0)), none⟩])
 (.seq (.seq (.ops [⟨some 8, .move (.tmp 0), none⟩,
 ⟨some 9, .eqNil 0 false (.tmp 8), none⟩])
 (.cond (.tmp 9)
 (.seq (.ops [⟨some 4, .move (.const (.int .i64 0)), none⟩])
 (.ret))
 (.skip)))
 (.seq (.ops [⟨some 10, .move (.tmp 1), none⟩,
 ⟨some 11, .mxn false (.tmp 10) (.const (.int .i64 1024)), none⟩,
 ⟨some 1, .move (.tmp 11), none⟩])
 (.seq (.ops [⟨some 13, .move (.tmp 0), none⟩,
 ⟨some 14, .move (.tmp 1), none⟩,
 ⟨some 15, .call (F 178) [.tmp 13, .tmp 14], none⟩,
 ⟨some 12, .move (.tmp 15), none⟩,
 ⟨some 16, .extract (.tmp 12) 0, none⟩,
 ⟨some 17, .extract (.tmp 12) 1, none⟩,
 ⟨some 5, .move (.tmp 16), none⟩,
 ⟨some 6, .move (.tmp 17), none⟩])
 (.seq (.draw [(⟨some 18, .move (.tmp 0), none⟩, []),
 (⟨some 19, .nilCheck (.tmp 18), none⟩, []),
 (⟨some 20, .fieldAddr 3 (.tmp 19), none⟩, []),
 (⟨some 21, .load1 (.tmp 20), none⟩, []),
 (⟨some 22, .move (.tmp 0), none⟩, []),
 (⟨some 23, .nilCheck (.tmp 22), none⟩, []),
 (⟨some 24, .fieldAddr 3 (.tmp 23), none⟩, []),
 (⟨some 25, .load1 (.tmp 24), none⟩, []),
 (⟨some 26, .move (.tmp 5), none⟩, []),
 (⟨some 27, .sliceSl 4 (.tmp 25) (some (.tmp 26)) none none, none⟩, []),
 (⟨some 28, .copy 4 (.tmp 21) (.tmp 27), none⟩, []),
 (⟨some 7, .move (.tmp 28), none⟩, [])])
 (.seq (.ops [⟨some 29, .move (.tmp 0), none⟩,
 ⟨some 30, .nilCheck (.tmp 29), none⟩,
 ⟨some 31, .fieldAddr 3 (.tmp 30), none⟩,
 ⟨some 32, .load1 (.tmp 31), none⟩,
 ⟨some 33, .move (.tmp 7), none⟩,
 ⟨some 34, .sliceSl 4 (.tmp 32) (some (.tmp 33)) none none, none⟩,
 ⟨none, .clearSl [.int .i64 0, .int .i64 0, .int .i64 0, .string ⟨#[]⟩] (.tmp 34), none⟩])
 (.seq (.ops [⟨some 35, .move (.tmp 0), none⟩,
 ⟨some 36, .move (.tmp 0), none⟩,
 ⟨some 37, .nilCheck (.tmp 36), none⟩,
 ⟨some 38, .fieldAddr 3 (.tmp 37), none⟩,
 ⟨some 39, .load1 (.tmp 38), none⟩,
 ⟨some 40, .move (.tmp 7), none⟩,
 ⟨some 41, .sliceSl 4 (.tmp 39) none (some (.tmp 40)) none, none⟩,
 ⟨some 42, .nilCheck (.tmp 35), none⟩,
 ⟨some 43, .fieldAddr 3 (.tmp 42), none⟩,
 ⟨none, .store 1 (.tmp 43) (.tmp 41), none⟩])
 (.seq (.ops [⟨some 44, .move (.tmp 0), none⟩,
 ⟨some 45, .move (.tmp 0), none⟩,
 ⟨some 46, .nilCheck (.tmp 45), none⟩,
 ⟨some 47, .fieldAddr 2 (.tmp 46), none⟩,
 ⟨some 48, .load1 (.tmp 47), none⟩,
 ⟨some 49, .move (.tmp 1), none⟩,
 ⟨some 50, .mxn true (.tmp 48) (.tmp 49), none⟩,
 ⟨some 51, .nilCheck (.tmp 44), none⟩,
 ⟨some 52, .fieldAddr 2 (.tmp 51), none⟩,
 ⟨none, .store 1 (.tmp 52) (.tmp 50), none⟩])
 (.seq (.ops [⟨some 53, .move (.tmp 5), none⟩,
 ⟨some 4, .move (.tmp 53), none⟩])
 (.ret)))))))))⟩
/-- (*hurdle/acceptor.Acceptor).Promised -/
def c_acceptor_Acceptor_Promised (F : Nat → FuncId) (Ty : Nat → TypeId) : IFunc := ⟨10, [.cellN 2 2],
 .seq (.ops [⟨some 2, .alloc [.int .i64 0, .int .i64 0], none⟩])
 (.seq (.seq (.ops [⟨some 3, .move (.tmp 0), none⟩,
 ⟨some 4, .eqNil 0 false (.tmp 3), none⟩])
 (.cond (.tmp 4)
 (.seq (.ops [⟨some 5, .build [.int .i64 0, .int .i64 0] [], none⟩,
 ⟨none, .store 2 (.tmp 2) (.tmp 5), none⟩])
 (.ret))
 (.skip)))
 (.seq (.ops [⟨some 6, .move (.tmp 0), none⟩,
 ⟨some 7, .nilCheck (.tmp 6), none⟩,
 ⟨some 8, .fieldAddr 0 (.tmp 7), none⟩,
 ⟨some 9, .loadN 2 (.tmp 8), none⟩,
 ⟨none, .store 2 (.tmp 2) (.tmp 9), none⟩])
 (.ret)))⟩
/-- (*hurdle/acceptor.Acceptor).Votes -/
def c_acceptor_Acceptor_Votes (F : Nat → FuncId) (Ty : Nat → TypeId) : IFunc := ⟨22, [.tmp 4],
 .seq (.ops [⟨some 4, .move (.const (.slice none 0 0)), none⟩])
 (.seq (.seq (.ops [⟨some 7, .move (.tmp 0), none⟩,
 ⟨some 8, .eqNil 0 false (.tmp 7), none⟩])
 (.cond (.tmp 8)
 (.seq (.ops [⟨some 4, .move (.const (.slice none 0 0)), none⟩])
 (.ret))
 (.skip)))
 (.seq (.ops [⟨some 10, .move (.tmp 0), none⟩,
 ⟨some 11, .move (.tmp 1), none⟩,
 ⟨some 12, .call (F 178) [.tmp 10, .tmp 11], none⟩,
 ⟨some 9, .move (.tmp 12), none⟩,
 ⟨some 13, .extract (.tmp 9) 0, none⟩,
 ⟨some 14, .extract (.tmp 9) 1, none⟩,
 ⟨some 5, .move (.tmp 13), none⟩,
 ⟨some 6, .move (.tmp 14), none⟩])
 (.seq (.ops [⟨some 15, .move (.tmp 0), none⟩,
 ⟨some 16, .nilCheck (.tmp 15), none⟩,
 ⟨some 17, .fieldAddr 3 (.tmp 16), none⟩,
 ⟨some 18, .load1 (.tmp 17), none⟩,
 ⟨some 19, .move (.tmp 5), none⟩,
 ⟨some 20, .sliceSl 4 (.tmp 18) (some (.tmp 19)) none none, none⟩,
 ⟨some 21, .call (F 188) [.tmp 20], none⟩,
 ⟨some 4, .move (.tmp 21), none⟩])
 (.ret))))⟩
/-- (*hurdle/acceptor.Acceptor).Base -/
def c_acceptor_Acceptor_Base (F : Nat → FuncId) (Ty : Nat → TypeId) : IFunc := ⟨9, [.tmp 2],
 .seq (.ops [⟨some 2, .move (.const (.int .i64 0)), none⟩])
 (.seq (.seq (.ops [⟨some 3, .move (.tmp 0), none⟩,
 ⟨some 4, .eqNil 0 false (.tmp 3), none⟩])
 (.cond (.tmp 4)
 (.seq (.ops [⟨some 2, .move (.const (.int .i64 0)), none⟩])
 (.ret))
 (.skip)))
 (.seq (.ops [⟨some 5, .move (.tmp 0), none⟩,
 ⟨some 6, .nilCheck (.tmp 5), none⟩,
 ⟨some 7, .fieldAddr 2 (.tmp 6), none⟩,
 ⟨some 8, .load1 (.tmp 7), none⟩,
 ⟨some 2, .move (.tmp 8), none⟩])
 (.ret)))⟩
/-- slices.Insert[[]hurdle/api.Vote,hurdle/api.Vote] -/
def c_slices_Insert_api_Vote_api_Vote (F : Nat → FuncId) (Ty : Nat → TypeId) : IFunc := ⟨95, [.tmp 6],
 .seq (.ops [⟨some 6, .move (.const (.slice none 0 0)), none⟩])
 (.seq (.ops [⟨some 10, .move (.tmp 0), none⟩,
 ⟨some 11, .move (.tmp 1), none⟩,
 ⟨some 12, .sliceSl 4 (.tmp 10) (some (.tmp 11)) none none, none⟩])
 (.seq (.ops [⟨some 13, .move (.tmp 2), none⟩,
 ⟨some 14, .lenSl (.tmp 13), none⟩,
 ⟨some 7, .move (.tmp 14), none⟩])
 (.seq (.seq (.ops [⟨some 15, .move (.tmp 7), none⟩,
 ⟨some 16, .bin .eql (.tmp 15) (.const (.int .i64 0)), none⟩])
 (.cond (.tmp 16)
 (.seq (.ops [⟨some 17, .move (.tmp 0), none⟩,
 ⟨some 6, .move (.tmp 17), none⟩])
 (.ret))
 (.skip)))
 (.seq (.ops [⟨some 18, .move (.tmp 0), none⟩,
 ⟨some 19, .lenSl (.tmp 18), none⟩,
 ⟨some 8, .move (.tmp 19), none⟩])
 (.seq (.seq (.ops [⟨some 20, .move (.tmp 1), none⟩,
 ⟨some 21, .move (.tmp 8), none⟩,
 ⟨some 22, .bin .eql (.tmp 20) (.tmp 21), none⟩])
 (.cond (.tmp 22)
 (.seq (.ops [⟨some 23, .move (.tmp 0), none⟩,
 ⟨some 24, .move (.tmp 2), none⟩,
 ⟨some 25, .append 4 40 (.tmp 23) (.tmp 24), none⟩,
 ⟨some 6, .move (.tmp 25), none⟩])
 (.ret))
 (.skip)))
 (.seq (.seq (.ops [⟨some 26, .move (.tmp 8), none⟩,
 ⟨some 27, .move (.tmp 7), none⟩,
 ⟨some 28, .bin .add (.tmp 26) (.tmp 27), none⟩,
 ⟨some 29, .move (.tmp 0), none⟩,
 ⟨some 30, .capSl (.tmp 29), none⟩,
 ⟨some 31, .bin .gtr (.tmp 28) (.tmp 30), none⟩])
 (.cond (.tmp 31)
 (.seq (.ops [⟨some 32, .move (.tmp 0), none⟩,
 ⟨some 33, .move (.tmp 1), none⟩,
 ⟨some 34, .sliceSl 4 (.tmp 32) none (some (.tmp 33)) none, none⟩,
 ⟨some 35, .move (.tmp 8), none⟩,
 ⟨some 36, .move (.tmp 7), none⟩,
 ⟨some 37, .bin .add (.tmp 35) (.tmp 36), none⟩,
 ⟨some 38, .move (.tmp 1), none⟩,
 ⟨some 39, .bin .sub (.tmp 37) (.tmp 38), none⟩,
 ⟨some 40, .appendZ 40 [.int .i64 0, .int .i64 0, .int .i64 0, .string ⟨#[]⟩] (.tmp 34) (.tmp 39), none⟩,
 ⟨some 9, .move (.tmp 40), none⟩])
 (.seq (.ops [⟨some 41, .move (.tmp 9), none⟩,
 ⟨some 42, .move (.tmp 1), none⟩,
 ⟨some 43, .sliceSl 4 (.tmp 41) (some (.tmp 42)) none none, none⟩,
 ⟨some 44, .move (.tmp 2), none⟩,
 ⟨some 45, .copy 4 (.tmp 43) (.tmp 44), none⟩])
 (.seq (.draw [(⟨some 46, .move (.tmp 9), none⟩, []),
 (⟨some 47, .move (.tmp 1), none⟩, []),
 (⟨some 48, .move (.tmp 7), none⟩, []),
 (⟨some 49, .bin .add (.tmp 47) (.tmp 48), none⟩, []),
 (⟨some 50, .sliceSl 4 (.tmp 46) (some (.tmp 49)) none none, none⟩, []),
 (⟨some 51, .move (.tmp 0), none⟩, []),
 (⟨some 52, .move (.tmp 1), none⟩, []),
 (⟨some 53, .sliceSl 4 (.tmp 51) (some (.tmp 52)) none none, none⟩, []),
 (⟨some 54, .copy 4 (.tmp 50) (.tmp 53), none⟩, [])])
 (.seq (.ops [⟨some 55, .move (.tmp 9), none⟩,
 ⟨some 6, .move (.tmp 55), none⟩])
 (.ret)))))
 (.skip)))
 (.seq (.ops [⟨some 56, .move (.tmp 0), none⟩,
 ⟨some 57, .move (.tmp 8), none⟩,
 ⟨some 58, .move (.tmp 7), none⟩,
 ⟨some 59, .bin .add (.tmp 57) (.tmp 58), none⟩,
 ⟨some 60, .sliceSl 4 (.tmp 56) none (some (.tmp 59)) none, none⟩,
 ⟨some 0, .move (.tmp 60), none⟩])
 (.seq (.seq (.ops [⟨some 61, .move (.tmp 2), none⟩,
 ⟨some 62, .move (.tmp 0), none⟩,
 ⟨some 63, .move (.tmp 1), none⟩,
 ⟨some 64, .move (.tmp 7), none⟩,
 ⟨some 65, .bin .add (.tmp 63) (.tmp 64), none⟩,
 ⟨some 66, .sliceSl 4 (.tmp 62) (some (.tmp 65)) none none, none⟩,
 ⟨some 67, .call (F 190) [.tmp 61, .tmp 66], none⟩,
 ⟨some 68, .un .not (.tmp 67), none⟩])
 (.cond (.tmp 68)
 (.seq (.draw [(⟨some 69, .move (.tmp 0), none⟩, []),
 (⟨some 70, .move (.tmp 1), none⟩, []),
 (⟨some 71, .move (.tmp 7), none⟩, []),
 (⟨some 72, .bin .add (.tmp 70) (.tmp 71), none⟩, []),
 (⟨some 73, .sliceSl 4 (.tmp 69) (some (.tmp 72)) none none, none⟩, []),
 (⟨some 74, .move (.tmp 0), none⟩, []),
 (⟨some 75, .move (.tmp 1), none⟩, []),
 (⟨some 76, .sliceSl 4 (.tmp 74) (some (.tmp 75)) none none, none⟩, []),
 (⟨some 77, .copy 4 (.tmp 73) (.tmp 76), none⟩, [])])
 (.seq (.ops [⟨some 78, .move (.tmp 0), none⟩,
 ⟨some 79, .move (.tmp 1), none⟩,
 ⟨some 80, .sliceSl 4 (.tmp 78) (some (.tmp 79)) none none, none⟩,
 ⟨some 81, .move (.tmp 2), none⟩,
 ⟨some 82, .copy 4 (.tmp 80) (.tmp 81), none⟩])
 (.seq (.ops [⟨some 83, .move (.tmp 0), none⟩,
 ⟨some 6, .move (.tmp 83), none⟩])
 (.ret))))
 (.skip)))
 (.seq (.ops [⟨some 84, .move (.tmp 0), none⟩,
 ⟨some 85, .move (.tmp 8), none⟩,
 ⟨some 86, .sliceSl 4 (.tmp 84) (some (.tmp 85)) none none, none⟩,
 ⟨some 87, .move (.tmp 2), none⟩,
 ⟨some 88, .copy 4 (.tmp 86) (.tmp 87), none⟩])
 (.seq (.ops [⟨some 89, .move (.tmp 0), none⟩,
 ⟨some 90, .move (.tmp 1), none⟩,
 ⟨some 91, .sliceSl 4 (.tmp 89) (some (.tmp 90)) none none, none⟩,
 ⟨some 92, .move (.tmp 7), none⟩,
 ⟨some 93, .call (F 191) [.tmp 91, .tmp 92], none⟩])
 (.seq (.ops [⟨some 94, .move (.tmp 0), none⟩,
 ⟨some 6, .move (.tmp 94), none⟩])
 (.ret))))))))))))⟩
/-- slices.Clone[[]hurdle/api.Vote,hurdle/api.Vote] -/
def c_slices_Clone_api_Vote_api_Vote (F : Nat → FuncId) (Ty : Nat → TypeId) : IFunc := ⟨8, [.tmp 2],
 .seq (.ops [⟨some 2, .move (.const (.slice none 0 0)), none⟩])
 (.seq (.seq (.ops [⟨some 3, .move (.tmp 0), none⟩,
 ⟨some 4, .eqNil 1 false (.tmp 3), none⟩])
 (.cond (.tmp 4)
 (.seq (.ops [⟨some 2, .move (.const (.slice none 0 0)), none⟩])
 (.ret))
 (.skip)))
 (.seq (.ops [⟨some 5, .buildSlice 0 [] [], none⟩,
 ⟨some 6, .move (.tmp 0), none⟩,
 ⟨some 7, .append 4 40 (.tmp 5) (.tmp 6), none⟩,
 ⟨some 2, .move (.tmp 7), none⟩])
 (.ret)))⟩
/-- slices.BinarySearchFunc[[]hurdle/api.Vote,hurdle/api.Vote,int] -/
def c_slices_BinarySearchFunc_api_Vote_api_Vote_int (F : Nat → FuncId) (Ty : Nat → TypeId) : IFunc := ⟨49, [.tmp 6, .tmp 7],
 .seq (.ops [⟨some 6, .move (.const (.int .i64 0)), none⟩,
 ⟨some 7, .move (.const (.bool false)), none⟩])
 (.seq (.ops [⟨some 12, .move (.tmp 0), none⟩,
 ⟨some 13, .lenSl (.tmp 12), none⟩,
 ⟨some 8, .move (.tmp 13), none⟩])
 (.seq (.ops [⟨some 14, .move (.tmp 8), none⟩,
 ⟨some 9, .move (.const (.int .i64 0)), none⟩,
 ⟨some 10, .move (.tmp 14), none⟩])
 (.seq (.block 0 (.loop (.seq (.seq (.ops [⟨some 15, .move (.tmp 9), none⟩,
 ⟨some 16, .move (.tmp 10), none⟩,
 ⟨some 17, .bin .lss (.tmp 15) (.tmp 16), none⟩])
 (.cond (.tmp 17)
 (.skip)
 (.exit 0)))
 (.block 1 (.seq (.ops [⟨some 18, .move (.tmp 9), none⟩,
 ⟨some 19, .move (.tmp 10), none⟩,
 ⟨some 20, .bin .add (.tmp 18) (.tmp 19), none⟩,
 ⟨some 21, .conv .u64 (.tmp 20), none⟩,
 ⟨some 22, .bin .shr (.tmp 21) (.const (.int .u64 1)), none⟩,
 ⟨some 23, .conv .i64 (.tmp 22), none⟩,
 ⟨some 11, .move (.tmp 23), none⟩])
 (.seq (.ops [⟨some 24, .move (.tmp 2), none⟩,
 ⟨some 25, .move (.tmp 0), none⟩,
 ⟨some 26, .move (.tmp 11), none⟩,
 ⟨some 27, .idxSl 4 (.tmp 25) (.tmp 26), none⟩,
 ⟨some 28, .loadN 4 (.tmp 27), none⟩,
 ⟨some 29, .move (.tmp 1), none⟩,
 ⟨some 30, .callDyn (.tmp 24) [.tmp 28, .tmp 29], none⟩,
 ⟨some 31, .bin .lss (.tmp 30) (.const (.int .i64 0)), none⟩])
 (.cond (.tmp 31)
 (.ops [⟨some 32, .move (.tmp 11), none⟩,
 ⟨some 33, .bin .add (.tmp 32) (.const (.int .i64 1)), none⟩,
 ⟨some 9, .move (.tmp 33), none⟩])
 (.ops [⟨some 34, .move (.tmp 11), none⟩,
 ⟨some 10, .move (.tmp 34), none⟩]))))))))
 (.seq (.ops [⟨some 35, .move (.tmp 9), none⟩,
 ⟨some 36, .move (.tmp 9), none⟩,
 ⟨some 37, .move (.tmp 8), none⟩,
 ⟨some 38, .bin .lss (.tmp 36) (.tmp 37), none⟩,
 ⟨some 39, .move (.tmp 38), none⟩,
 ⟨some 40, .move (.tmp 2), some (39, true)⟩,
 ⟨some 41, .move (.tmp 0), some (39, true)⟩,
 ⟨some 42, .move (.tmp 9), some (39, true)⟩,
 ⟨some 43, .idxSl 4 (.tmp 41) (.tmp 42), some (39, true)⟩,
 ⟨some 44, .loadN 4 (.tmp 43), some (39, true)⟩,
 ⟨some 45, .move (.tmp 1), some (39, true)⟩,
 ⟨some 46, .callDyn (.tmp 40) [.tmp 44, .tmp 45], some (39, true)⟩,
 ⟨some 47, .bin .eql (.tmp 46) (.const (.int .i64 0)), some (39, true)⟩,
 ⟨some 48, .pick (.tmp 39) (.tmp 47) (.const (.bool false)), none⟩,
 ⟨some 6, .move (.tmp 35), none⟩,
 ⟨some 7, .move (.tmp 48), none⟩])
 (.ret)))))⟩
/-- A context has these functions. -/
structure HasAcc (c : Ctx) : Prop where
 acceptor_New : c.IP (c.F 177) = some (c_acceptor_New c.F c.Ty)
 acceptor_Acceptor_find : c.IP (c.F 178) = some (c_acceptor_Acceptor_find c.F c.Ty)
 acceptor_Acceptor_find_F1 : c.IP (c.F 179) = some (c_acceptor_Acceptor_find_F1 c.F c.Ty)
 acceptor_Acceptor_may : c.IP (c.F 180) = some (c_acceptor_Acceptor_may c.F c.Ty)
 acceptor_Acceptor_Promise : c.IP (c.F 181) = some (c_acceptor_Acceptor_Promise c.F c.Ty)
 acceptor_Acceptor_Accept : c.IP (c.F 182) = some (c_acceptor_Acceptor_Accept c.F c.Ty)
 acceptor_Acceptor_Trim : c.IP (c.F 183) = some (c_acceptor_Acceptor_Trim c.F c.Ty)
 acceptor_Acceptor_Promised : c.IP (c.F 184) = some (c_acceptor_Acceptor_Promised c.F c.Ty)
 acceptor_Acceptor_Votes : c.IP (c.F 185) = some (c_acceptor_Acceptor_Votes c.F c.Ty)
 acceptor_Acceptor_Base : c.IP (c.F 186) = some (c_acceptor_Acceptor_Base c.F c.Ty)
 slices_Insert_api_Vote_api_Vote : c.IP (c.F 187) = some (c_slices_Insert_api_Vote_api_Vote c.F c.Ty)
 slices_Clone_api_Vote_api_Vote : c.IP (c.F 188) = some (c_slices_Clone_api_Vote_api_Vote c.F c.Ty)
 slices_BinarySearchFunc_api_Vote_api_Vote_int : c.IP (c.F 189) = some (c_slices_BinarySearchFunc_api_Vote_api_Vote_int c.F c.Ty)

end Go.Proofs.YtkgfnelapcpibaaI
