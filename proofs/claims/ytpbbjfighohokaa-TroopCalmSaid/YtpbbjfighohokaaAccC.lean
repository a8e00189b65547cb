/- PRINTED by gen.py (this session's own): the intermediate form of some functions, and a context's having them. / slices.Insert, of rows of four cells: what it does, its slice seen whole. / slices.Insert, of rows of four cells: what it does to an own slice. / Who accepts: plain laws, how it stands in the heap, where a slot is. / Who accepts: the small functions. / Who accepts: a vote is accepted. -/
import Derived.Test.YtpbbjfighohokaaIdealZ
import Derived.Test.YtpbbjfighohokaaVotes
import Derived.Test.YtpbbjfighohokaaBalD
namespace Go.Proofs.YtpbbjfighohokaaI
set_option linter.unusedSimpArgs false
set_option linter.unusedVariables false
open Go

/-- hurdle/acceptor.New -/
abbrev n_acceptor_New : Nat := 177
/-- (*hurdle/acceptor.Acceptor).find -/
abbrev n_acceptor_Acceptor_find : Nat := 178
/-- (*hurdle/acceptor.Acceptor).find$1 -/
abbrev n_acceptor_Acceptor_find_F1 : Nat := 179
/-- (*hurdle/acceptor.Acceptor).may -/
abbrev n_acceptor_Acceptor_may : Nat := 180
/-- (*hurdle/acceptor.Acceptor).Promise -/
abbrev n_acceptor_Acceptor_Promise : Nat := 181
/-- (*hurdle/acceptor.Acceptor).Accept -/
abbrev n_acceptor_Acceptor_Accept : Nat := 182
/-- (*hurdle/acceptor.Acceptor).Promised -/
abbrev n_acceptor_Acceptor_Promised : Nat := 184
/-- (*hurdle/acceptor.Acceptor).Votes -/
abbrev n_acceptor_Acceptor_Votes : Nat := 185
/-- (*hurdle/acceptor.Acceptor).Base -/
abbrev n_acceptor_Acceptor_Base : Nat := 186
/-- slices.Insert[[]hurdle/api.Vote,hurdle/api.Vote] -/
abbrev n_slices_Insert_api_Vote_api_Vote : Nat := 187
/-- slices.Clone[[]hurdle/api.Vote,hurdle/api.Vote] -/
abbrev n_slices_Clone_api_Vote_api_Vote : Nat := 188
/-- slices.BinarySearchFunc[[]hurdle/api.Vote,hurdle/api.Vote,int] -/
abbrev n_slices_BinarySearchFunc_api_Vote_api_Vote_int : Nat := 189
/-- hurdle/acceptor.New -/
def c_acceptor_New (F : Nat → FuncId) (Ty : Nat → TypeId) : IFunc := ⟨3, [.tmp 0],
 .seq (.ops [⟨some 0, .move (.const (.pointer none)), none⟩])
 (.seq (.ops [⟨some 1, .build [.int .i64 0, .int .i64 0, .int .i64 0, .slice none 0 0] [], none⟩,
 ⟨some 2, .box (.tmp 1), none⟩,
 ⟨some 0, .move (.tmp 2), none⟩])
 (.ret))⟩
/-- (*hurdle/acceptor.Acceptor).find -/
def c_acceptor_Acceptor_find (F : Nat → FuncId) (Ty : Nat → TypeId) : IFunc := ⟨14, [.tmp 4, .tmp 5],
 .seq (.ops [⟨some 4, .move (.const (.int .i64 0)), none⟩,
 ⟨some 5, .move (.const (.bool false)), none⟩])
 (.seq (.ops [⟨some 6, .move (.tmp 0), none⟩,
 ⟨some 7, .nilCheck (.tmp 6), none⟩,
 ⟨some 8, .fieldAddr 3 (.tmp 7), none⟩,
 ⟨some 9, .load1 (.tmp 8), none⟩,
 ⟨some 10, .move (.tmp 1), none⟩,
 ⟨some 11, .call (F 189) [.tmp 9, .tmp 10, .func (F 179)], none⟩,
 ⟨some 12, .extract (.tmp 11) 0, none⟩,
 ⟨some 13, .extract (.tmp 11) 1, none⟩,
 ⟨some 4, .move (.tmp 12), none⟩,
 ⟨some 5, .move (.tmp 13), none⟩])
 (.ret))⟩
/-- (*hurdle/acceptor.Acceptor).find$1 -/
def c_acceptor_Acceptor_find_F1 (F : Nat → FuncId) (Ty : Nat → TypeId) : IFunc := ⟨15, [.tmp 4],
 .seq (.ops [⟨some 2, .box (.tmp 0), none⟩,
 ⟨some 4, .move (.const (.int .i64 0)), none⟩])
 (.seq (.block 0 (.seq (.ops [⟨some 6, .fieldAddr 0 (.tmp 2), none⟩,
 ⟨some 7, .load1 (.tmp 6), none⟩,
 ⟨some 8, .move (.tmp 1), none⟩,
 ⟨some 9, .bin .lss (.tmp 7) (.tmp 8), none⟩,
 ⟨some 5, .move (.tmp 9), none⟩])
 (.cond (.tmp 5)
 (.seq (.ops [⟨some 4, .move (.const (.int .i64 (-1))), none⟩])
 (.ret))
 (.seq (.ops [⟨some 11, .fieldAddr 0 (.tmp 2), none⟩,
 ⟨some 12, .load1 (.tmp 11), none⟩,
 ⟨some 13, .move (.tmp 1), none⟩,
 ⟨some 14, .bin .gtr (.tmp 12) (.tmp 13), none⟩,
 ⟨some 10, .move (.tmp 14), none⟩])
 (.cond (.tmp 10)
 (.seq (.ops [⟨some 4, .move (.const (.int .i64 1)), none⟩])
 (.ret))
 (.skip))))))
 (.seq (.ops [⟨some 4, .move (.const (.int .i64 0)), none⟩])
 (.ret)))⟩
/-- (*hurdle/acceptor.Acceptor).may -/
def c_acceptor_Acceptor_may (F : Nat → FuncId) (Ty : Nat → TypeId) : IFunc := ⟨20, [.tmp 4],
 .seq (.ops [⟨some 3, .box (.tmp 1), none⟩,
 ⟨some 4, .move (.const (.bool false)), none⟩])
 (.seq (.draw [(⟨some 5, .move (.tmp 0), none⟩, []),
 (⟨some 6, .eqNil 0 true (.tmp 5), none⟩, []),
 (⟨some 7, .move (.tmp 6), none⟩, []),
 (⟨some 8, .loadN 2 (.tmp 3), some (7, true)⟩, []),
 (⟨some 9, .call (F 5) [.tmp 8], some (7, true)⟩, []),
 (⟨some 10, .pick (.tmp 7) (.tmp 9) (.const (.bool false)), none⟩, []),
 (⟨some 11, .move (.tmp 10), none⟩, []),
 (⟨some 12, .loadN 2 (.tmp 3), some (11, true)⟩, []),
 (⟨some 13, .move (.tmp 0), some (11, true)⟩, []),
 (⟨some 14, .nilCheck (.tmp 13), some (11, true)⟩, []),
 (⟨some 15, .fieldAddr 0 (.tmp 14), some (11, true)⟩, []),
 (⟨some 16, .loadN 2 (.tmp 15), some (11, true)⟩, []),
 (⟨some 17, .call (F 4) [.tmp 12, .tmp 16], some (11, true)⟩, []),
 (⟨some 18, .bin .geq (.tmp 17) (.const (.int .i64 0)), some (11, true)⟩, []),
 (⟨some 19, .pick (.tmp 11) (.tmp 18) (.const (.bool false)), none⟩, []),
 (⟨some 4, .move (.tmp 19), none⟩, [])])
 (.ret))⟩
/-- (*hurdle/acceptor.Acceptor).Promise -/
def c_acceptor_Acceptor_Promise (F : Nat → FuncId) (Ty : Nat → TypeId) : IFunc := ⟨27, [.tmp 6, .tmp 7],
 .seq (.ops [⟨some 4, .box (.tmp 1), none⟩,
 ⟨some 6, .move (.const (.slice none 0 0)), none⟩,
 ⟨some 7, .move (.const (.bool false)), none⟩])
 (.seq (.seq (.ops [⟨some 8, .move (.tmp 0), none⟩,
 ⟨some 9, .loadN 2 (.tmp 4), none⟩,
 ⟨some 10, .call (F 180) [.tmp 8, .tmp 9], none⟩,
 ⟨some 11, .un .not (.tmp 10), none⟩,
 ⟨some 12, .move (.tmp 11), none⟩,
 ⟨some 13, .move (.tmp 2), some (12, false)⟩,
 ⟨some 14, .move (.tmp 0), some (12, false)⟩,
 ⟨some 15, .nilCheck (.tmp 14), some (12, false)⟩,
 ⟨some 16, .fieldAddr 2 (.tmp 15), some (12, false)⟩,
 ⟨some 17, .load1 (.tmp 16), some (12, false)⟩,
 ⟨some 18, .bin .lss (.tmp 13) (.tmp 17), some (12, false)⟩,
 ⟨some 19, .pick (.tmp 12) (.const (.bool true)) (.tmp 18), none⟩])
 (.cond (.tmp 19)
 (.seq (.ops [⟨some 6, .move (.const (.slice none 0 0)), none⟩,
 ⟨some 7, .move (.const (.bool false)), none⟩])
 (.ret))
 (.skip)))
 (.seq (.ops [⟨some 20, .move (.tmp 0), none⟩,
 ⟨some 21, .loadN 2 (.tmp 4), none⟩,
 ⟨some 22, .nilCheck (.tmp 20), none⟩,
 ⟨some 23, .fieldAddr 0 (.tmp 22), none⟩,
 ⟨none, .store 2 (.tmp 23) (.tmp 21), none⟩])
 (.seq (.ops [⟨some 24, .move (.tmp 0), none⟩,
 ⟨some 25, .move (.tmp 2), none⟩,
 ⟨some 26, .call (F 185) [.tmp 24, .tmp 25], none⟩,
 ⟨some 6, .move (.tmp 26), none⟩,
 ⟨some 7, .move (.const (.bool true)), none⟩])
 (.ret))))⟩
/-- (*hurdle/acceptor.Acceptor).Accept -/
def c_acceptor_Acceptor_Accept (F : Nat → FuncId) (Ty : Nat → TypeId) : IFunc := ⟨63, [.tmp 4],
 .seq (.ops [⟨some 3, .box (.tmp 1), none⟩,
 ⟨some 4, .move (.const (.bool false)), none⟩])
 (.seq (.seq (.draw [(⟨some 7, .move (.tmp 0), none⟩, []),
 (⟨some 8, .fieldAddr 1 (.tmp 3), none⟩, []),
 (⟨some 9, .loadN 2 (.tmp 8), none⟩, []),
 (⟨some 10, .call (F 180) [.tmp 7, .tmp 9], none⟩, []),
 (⟨some 11, .un .not (.tmp 10), none⟩, []),
 (⟨some 12, .move (.tmp 11), none⟩, []),
 (⟨some 13, .fieldAddr 0 (.tmp 3), some (12, false)⟩, []),
 (⟨some 14, .load1 (.tmp 13), some (12, false)⟩, []),
 (⟨some 15, .move (.tmp 0), some (12, false)⟩, []),
 (⟨some 16, .nilCheck (.tmp 15), some (12, false)⟩, []),
 (⟨some 17, .fieldAddr 2 (.tmp 16), some (12, false)⟩, []),
 (⟨some 18, .load1 (.tmp 17), some (12, false)⟩, []),
 (⟨some 19, .bin .lss (.tmp 14) (.tmp 18), some (12, false)⟩, []),
 (⟨some 20, .pick (.tmp 12) (.const (.bool true)) (.tmp 19), none⟩, []),
 (⟨some 21, .move (.tmp 20), none⟩, []),
 (⟨some 22, .fieldAddr 0 (.tmp 3), some (21, false)⟩, []),
 (⟨some 23, .load1 (.tmp 22), some (21, false)⟩, []),
 (⟨some 24, .bin .geq (.tmp 23) (.const (.int .i64 1024)), some (21, false)⟩, []),
 (⟨some 25, .pick (.tmp 21) (.const (.bool true)) (.tmp 24), none⟩, []),
 (⟨some 26, .move (.tmp 25), none⟩, []),
 (⟨some 27, .fieldAddr 3 (.tmp 3), some (26, false)⟩, []),
 (⟨some 28, .load1 (.tmp 27), some (26, false)⟩, []),
 (⟨some 29, .strLen (.tmp 28), some (26, false)⟩, []),
 (⟨some 30, .bin .gtr (.tmp 29) (.const (.int .i64 4096)), some (26, false)⟩, []),
 (⟨some 31, .pick (.tmp 26) (.const (.bool true)) (.tmp 30), none⟩, [])])
 (.cond (.tmp 31)
 (.seq (.ops [⟨some 4, .move (.const (.bool false)), none⟩])
 (.ret))
 (.skip)))
 (.seq (.ops [⟨some 32, .move (.tmp 0), none⟩,
 ⟨some 33, .fieldAddr 1 (.tmp 3), none⟩,
 ⟨some 34, .loadN 2 (.tmp 33), none⟩,
 ⟨some 35, .nilCheck (.tmp 32), none⟩,
 ⟨some 36, .fieldAddr 0 (.tmp 35), none⟩,
 ⟨none, .store 2 (.tmp 36) (.tmp 34), none⟩])
 (.seq (.ops [⟨some 38, .move (.tmp 0), none⟩,
 ⟨some 39, .fieldAddr 0 (.tmp 3), none⟩,
 ⟨some 40, .load1 (.tmp 39), none⟩,
 ⟨some 41, .call (F 178) [.tmp 38, .tmp 40], none⟩,
 ⟨some 37, .move (.tmp 41), none⟩,
 ⟨some 42, .extract (.tmp 37) 0, none⟩,
 ⟨some 43, .extract (.tmp 37) 1, none⟩,
 ⟨some 5, .move (.tmp 42), none⟩,
 ⟨some 6, .move (.tmp 43), none⟩])
 (.seq (.seq (.ops [⟨some 44, .move (.tmp 6), none⟩])
 (.cond (.tmp 44)
 (.draw [(⟨some 45, .move (.tmp 0), none⟩, []),
 (⟨some 46, .nilCheck (.tmp 45), none⟩, []),
 (⟨some 47, .fieldAddr 3 (.tmp 46), none⟩, []),
 (⟨some 48, .load1 (.tmp 47), none⟩, []),
 (⟨some 49, .move (.tmp 5), none⟩, []),
 (⟨some 50, .loadN 4 (.tmp 3), none⟩, []),
 (⟨some 51, .idxSl 4 (.tmp 48) (.tmp 49), none⟩, []),
 (⟨none, .store 4 (.tmp 51) (.tmp 50), none⟩, [])])
 (.draw [(⟨some 52, .move (.tmp 0), none⟩, []),
 (⟨some 53, .move (.tmp 0), none⟩, []),
 (⟨some 54, .nilCheck (.tmp 53), none⟩, []),
 (⟨some 55, .fieldAddr 3 (.tmp 54), none⟩, []),
 (⟨some 56, .load1 (.tmp 55), none⟩, []),
 (⟨some 57, .move (.tmp 5), none⟩, []),
 (⟨some 58, .loadN 4 (.tmp 3), none⟩, []),
 (⟨some 59, .buildSlice 1 [.int .i64 0, .int .i64 0, .int .i64 0, .string ⟨#[]⟩] [((0, 4), .tmp 58)], none⟩, []),
 (⟨some 60, .call (F 187) [.tmp 56, .tmp 57, .tmp 59], none⟩, []),
 (⟨some 61, .nilCheck (.tmp 52), none⟩, []),
 (⟨some 62, .fieldAddr 3 (.tmp 61), none⟩, []),
 (⟨none, .store 1 (.tmp 62) (.tmp 60), none⟩, [])])))
 (.seq (.ops [⟨some 4, .move (.const (.bool true)), none⟩])
 (.ret))))))⟩
/-- (*hurdle/acceptor.Acceptor).Promised -/
def c_acceptor_Acceptor_Promised (F : Nat → FuncId) (Ty : Nat → TypeId) : IFunc := ⟨10, [.cellN 2 2],
 .seq (.ops [⟨some 2, .alloc [.int .i64 0, .int .i64 0], none⟩])
 (.seq (.seq (.ops [⟨some 3, .move (.tmp 0), none⟩,
 ⟨some 4, .eqNil 0 false (.tmp 3), none⟩])
 (.cond (.tmp 4)
 (.seq (.ops [⟨some 5, .build [.int .i64 0, .int .i64 0] [], none⟩,
 ⟨none, .store 2 (.tmp 2) (.tmp 5), none⟩])
 (.ret))
 (.skip)))
 (.seq (.ops [⟨some 6, .move (.tmp 0), none⟩,
 ⟨some 7, .nilCheck (.tmp 6), none⟩,
 ⟨some 8, .fieldAddr 0 (.tmp 7), none⟩,
 ⟨some 9, .loadN 2 (.tmp 8), none⟩,
 ⟨none, .store 2 (.tmp 2) (.tmp 9), none⟩])
 (.ret)))⟩
/-- (*hurdle/acceptor.Acceptor).Votes -/
def c_acceptor_Acceptor_Votes (F : Nat → FuncId) (Ty : Nat → TypeId) : IFunc := ⟨22, [.tmp 4],
 .seq (.ops [⟨some 4, .move (.const (.slice none 0 0)), none⟩])
 (.seq (.seq (.ops [⟨some 7, .move (.tmp 0), none⟩,
 ⟨some 8, .eqNil 0 false (.tmp 7), none⟩])
 (.cond (.tmp 8)
 (.seq (.ops [⟨some 4, .move (.const (.slice none 0 0)), none⟩])
 (.ret))
 (.skip)))
 (.seq (.ops [⟨some 10, .move (.tmp 0), none⟩,
 ⟨some 11, .move (.tmp 1), none⟩,
 ⟨some 12, .call (F 178) [.tmp 10, .tmp 11], none⟩,
 ⟨some 9, .move (.tmp 12), none⟩,
 ⟨some 13, .extract (.tmp 9) 0, none⟩,
 ⟨some 14, .extract (.tmp 9) 1, none⟩,
 ⟨some 5, .move (.tmp 13), none⟩,
 ⟨some 6, .move (.tmp 14), none⟩])
 (.seq (.ops [⟨some 15, .move (.tmp 0), none⟩,
 ⟨some 16, .nilCheck (.tmp 15), none⟩,
 ⟨some 17, .fieldAddr 3 (.tmp 16), none⟩,
 ⟨some 18, .load1 (.tmp 17), none⟩,
 ⟨some 19, .move (.tmp 5), none⟩,
 ⟨some 20, .sliceSl 4 (.tmp 18) (some (.tmp 19)) none none, none⟩,
 ⟨some 21, .call (F 188) [.tmp 20], none⟩,
 ⟨some 4, .move (.tmp 21), none⟩])
 (.ret))))⟩
/-- (*hurdle/acceptor.Acceptor).Base -/
def c_acceptor_Acceptor_Base (F : Nat → FuncId) (Ty : Nat → TypeId) : IFunc := ⟨9, [.tmp 2],
 .seq (.ops [⟨some 2, .move (.const (.int .i64 0)), none⟩])
 (.seq (.seq (.ops [⟨some 3, .move (.tmp 0), none⟩,
 ⟨some 4, .eqNil 0 false (.tmp 3), none⟩])
 (.cond (.tmp 4)
 (.seq (.ops [⟨some 2, .move (.const (.int .i64 0)), none⟩])
 (.ret))
 (.skip)))
 (.seq (.ops [⟨some 5, .move (.tmp 0), none⟩,
 ⟨some 6, .nilCheck (.tmp 5), none⟩,
 ⟨some 7, .fieldAddr 2 (.tmp 6), none⟩,
 ⟨some 8, .load1 (.tmp 7), none⟩,
 ⟨some 2, .move (.tmp 8), none⟩])
 (.ret)))⟩
/-- slices.Insert[[]hurdle/api.Vote,hurdle/api.Vote] -/
def c_slices_Insert_api_Vote_api_Vote (F : Nat → FuncId) (Ty : Nat → TypeId) : IFunc := ⟨95, [.tmp 6],
 .seq (.ops [⟨some 6, .move (.const (.slice none 0 0)), none⟩])
 (.seq (.ops [⟨some 10, .move (.tmp 0), none⟩,
 ⟨some 11, .move (.tmp 1), none⟩,
 ⟨some 12, .sliceSl 4 (.tmp 10) (some (.tmp 11)) none none, none⟩])
 (.seq (.ops [⟨some 13, .move (.tmp 2), none⟩,
 ⟨some 14, .lenSl (.tmp 13), none⟩,
 ⟨some 7, .move (.tmp 14), none⟩])
 (.seq (.seq (.ops [⟨some 15, .move (.tmp 7), none⟩,
 ⟨some 16, .bin .eql (.tmp 15) (.const (.int .i64 0)), none⟩])
 (.cond (.tmp 16)
 (.seq (.ops [⟨some 17, .move (.tmp 0), none⟩,
 ⟨some 6, .move (.tmp 17), none⟩])
 (.ret))
 (.skip)))
 (.seq (.ops [⟨some 18, .move (.tmp 0), none⟩,
 ⟨some 19, .lenSl (.tmp 18), none⟩,
 ⟨some 8, .move (.tmp 19), none⟩])
 (.seq (.seq (.ops [⟨some 20, .move (.tmp 1), none⟩,
 ⟨some 21, .move (.tmp 8), none⟩,
 ⟨some 22, .bin .eql (.tmp 20) (.tmp 21), none⟩])
 (.cond (.tmp 22)
 (.seq (.ops [⟨some 23, .move (.tmp 0), none⟩,
 ⟨some 24, .move (.tmp 2), none⟩,
 ⟨some 25, .append 4 40 (.tmp 23) (.tmp 24), none⟩,
 ⟨some 6, .move (.tmp 25), none⟩])
 (.ret))
 (.skip)))
 (.seq (.seq (.ops [⟨some 26, .move (.tmp 8), none⟩,
 ⟨some 27, .move (.tmp 7), none⟩,
 ⟨some 28, .bin .add (.tmp 26) (.tmp 27), none⟩,
 ⟨some 29, .move (.tmp 0), none⟩,
 ⟨some 30, .capSl (.tmp 29), none⟩,
 ⟨some 31, .bin .gtr (.tmp 28) (.tmp 30), none⟩])
 (.cond (.tmp 31)
 (.seq (.ops [⟨some 32, .move (.tmp 0), none⟩,
 ⟨some 33, .move (.tmp 1), none⟩,
 ⟨some 34, .sliceSl 4 (.tmp 32) none (some (.tmp 33)) none, none⟩,
 ⟨some 35, .move (.tmp 8), none⟩,
 ⟨some 36, .move (.tmp 7), none⟩,
 ⟨some 37, .bin .add (.tmp 35) (.tmp 36), none⟩,
 ⟨some 38, .move (.tmp 1), none⟩,
 ⟨some 39, .bin .sub (.tmp 37) (.tmp 38), none⟩,
 ⟨some 40, .appendZ 40 [.int .i64 0, .int .i64 0, .int .i64 0, .string ⟨#[]⟩] (.tmp 34) (.tmp 39), none⟩,
 ⟨some 9, .move (.tmp 40), none⟩])
 (.seq (.ops [⟨some 41, .move (.tmp 9), none⟩,
 ⟨some 42, .move (.tmp 1), none⟩,
 ⟨some 43, .sliceSl 4 (.tmp 41) (some (.tmp 42)) none none, none⟩,
 ⟨some 44, .move (.tmp 2), none⟩,
 ⟨some 45, .copy 4 (.tmp 43) (.tmp 44), none⟩])
 (.seq (.draw [(⟨some 46, .move (.tmp 9), none⟩, []),
 (⟨some 47, .move (.tmp 1), none⟩, []),
 (⟨some 48, .move (.tmp 7), none⟩, []),
 (⟨some 49, .bin .add (.tmp 47) (.tmp 48), none⟩, []),
 (⟨some 50, .sliceSl 4 (.tmp 46) (some (.tmp 49)) none none, none⟩, []),
 (⟨some 51, .move (.tmp 0), none⟩, []),
 (⟨some 52, .move (.tmp 1), none⟩, []),
 (⟨some 53, .sliceSl 4 (.tmp 51) (some (.tmp 52)) none none, none⟩, []),
 (⟨some 54, .copy 4 (.tmp 50) (.tmp 53), none⟩, [])])
 (.seq (.ops [⟨some 55, .move (.tmp 9), none⟩,
 ⟨some 6, .move (.tmp 55), none⟩])
 (.ret)))))
 (.skip)))
 (.seq (.ops [⟨some 56, .move (.tmp 0), none⟩,
 ⟨some 57, .move (.tmp 8), none⟩,
 ⟨some 58, .move (.tmp 7), none⟩,
 ⟨some 59, .bin .add (.tmp 57) (.tmp 58), none⟩,
 ⟨some 60, .sliceSl 4 (.tmp 56) none (some (.tmp 59)) none, none⟩,
 ⟨some 0, .move (.tmp 60), none⟩])
 (.seq (.seq (.ops [⟨some 61, .move (.tmp 2), none⟩,
 ⟨some 62, .move (.tmp 0), none⟩,
 ⟨some 63, .move (.tmp 1), none⟩,
 ⟨some 64, .move (.tmp 7), none⟩,
 ⟨some 65, .bin .add (.tmp 63) (.tmp 64), none⟩,
 ⟨some 66, .sliceSl 4 (.tmp 62) (some (.tmp 65)) none none, none⟩,
 ⟨some 67, .call (F 190) [.tmp 61, .tmp 66], none⟩,
 ⟨some 68, .un .not (.tmp 67), none⟩])
 (.cond (.tmp 68)
 (.seq (.draw [(⟨some 69, .move (.tmp 0), none⟩, []),
 (⟨some 70, .move (.tmp 1), none⟩, []),
 (⟨some 71, .move (.tmp 7), none⟩, []),
 (⟨some 72, .bin .add (.tmp 70) (.tmp 71), none⟩, []),
 (⟨some 73, .sliceSl 4 (.tmp 69) (some (.tmp 72)) none none, none⟩, []),
 (⟨some 74, .move (.tmp 0), none⟩, []),
 (⟨some 75, .move (.tmp 1), none⟩, []),
 (⟨some 76, .sliceSl 4 (.tmp 74) (some (.tmp 75)) none none, none⟩, []),
 (⟨some 77, .copy 4 (.tmp 73) (.tmp 76), none⟩, [])])
 (.seq (.ops [⟨some 78, .move (.tmp 0), none⟩,
 ⟨some 79, .move (.tmp 1), none⟩,
 ⟨some 80, .sliceSl 4 (.tmp 78) (some (.tmp 79)) none none, none⟩,
 ⟨some 81, .move (.tmp 2), none⟩,
 ⟨some 82, .copy 4 (.tmp 80) (.tmp 81), none⟩])
 (.seq (.ops [⟨some 83, .move (.tmp 0), none⟩,
 ⟨some 6, .move (.tmp 83), none⟩])
 (.ret))))
 (.skip)))
 (.seq (.ops [⟨some 84, .move (.tmp 0), none⟩,
 ⟨some 85, .move (.tmp 8), none⟩,
 ⟨some 86, .sliceSl 4 (.tmp 84) (some (.tmp 85)) none none, none⟩,
 ⟨some 87, .move (.tmp 2), none⟩,
 ⟨some 88, .copy 4 (.tmp 86) (.tmp 87), none⟩])
 (.seq (.ops [⟨some 89, .move (.tmp 0), none⟩,
 ⟨some 90, .move (.tmp 1), none⟩,
 ⟨some 91, .sliceSl 4 (.tmp 89) (some (.tmp 90)) none none, none⟩,
 ⟨some 92, .move (.tmp 7), none⟩,
 ⟨some 93, .call (F 191) [.tmp 91, .tmp 92], none⟩])
 (.seq (.ops [⟨some 94, .move (.tmp 0), none⟩,
 ⟨some 6, .move (.tmp 94), none⟩])
 (.ret))))))))))))⟩
/-- slices.Clone[[]hurdle/api.Vote,hurdle/api.Vote] -/
def c_slices_Clone_api_Vote_api_Vote (F : Nat → FuncId) (Ty : Nat → TypeId) : IFunc := ⟨8, [.tmp 2],
 .seq (.ops [⟨some 2, .move (.const (.slice none 0 0)), none⟩])
 (.seq (.seq (.ops [⟨some 3, .move (.tmp 0), none⟩,
 ⟨some 4, .eqNil 1 false (.tmp 3), none⟩])
 (.cond (.tmp 4)
 (.seq (.ops [⟨some 2, .move (.const (.slice none 0 0)), none⟩])
 (.ret))
 (.skip)))
 (.seq (.ops [⟨some 5, .buildSlice 0 [] [], none⟩,
 ⟨some 6, .move (.tmp 0), none⟩,
 ⟨some 7, .append 4 40 (.tmp 5) (.tmp 6), none⟩,
 ⟨some 2, .move (.tmp 7), none⟩])
 (.ret)))⟩
/-- slices.BinarySearchFunc[[]hurdle/api.Vote,hurdle/api.Vote,int] -/
def c_slices_BinarySearchFunc_api_Vote_api_Vote_int (F : Nat → FuncId) (Ty : Nat → TypeId) : IFunc := ⟨49, [.tmp 6, .tmp 7],
 .seq (.ops [⟨some 6, .move (.const (.int .i64 0)), none⟩,
 ⟨some 7, .move (.const (.bool false)), none⟩])
 (.seq (.ops [⟨some 12, .move (.tmp 0), none⟩,
 ⟨some 13, .lenSl (.tmp 12), none⟩,
 ⟨some 8, .move (.tmp 13), none⟩])
 (.seq (.ops [⟨some 14, .move (.tmp 8), none⟩,
 ⟨some 9, .move (.const (.int .i64 0)), none⟩,
 ⟨some 10, .move (.tmp 14), none⟩])
 (.seq (.block 0 (.loop (.seq (.seq (.ops [⟨some 15, .move (.tmp 9), none⟩,
 ⟨some 16, .move (.tmp 10), none⟩,
 ⟨some 17, .bin .lss (.tmp 15) (.tmp 16), none⟩])
 (.cond (.tmp 17)
 (.skip)
 (.exit 0)))
 (.block 1 (.seq (.ops [⟨some 18, .move (.tmp 9), none⟩,
 ⟨some 19, .move (.tmp 10), none⟩,
 ⟨some 20, .bin .add (.tmp 18) (.tmp 19), none⟩,
 ⟨some 21, .conv .u64 (.tmp 20), none⟩,
 ⟨some 22, .bin .shr (.tmp 21) (.const (.int .u64 1)), none⟩,
 ⟨some 23, .conv .i64 (.tmp 22), none⟩,
 ⟨some 11, .move (.tmp 23), none⟩])
 (.seq (.ops [⟨some 24, .move (.tmp 2), none⟩,
 ⟨some 25, .move (.tmp 0), none⟩,
 ⟨some 26, .move (.tmp 11), none⟩,
 ⟨some 27, .idxSl 4 (.tmp 25) (.tmp 26), none⟩,
 ⟨some 28, .loadN 4 (.tmp 27), none⟩,
 ⟨some 29, .move (.tmp 1), none⟩,
 ⟨some 30, .callDyn (.tmp 24) [.tmp 28, .tmp 29], none⟩,
 ⟨some 31, .bin .lss (.tmp 30) (.const (.int .i64 0)), none⟩])
 (.cond (.tmp 31)
 (.ops [⟨some 32, .move (.tmp 11), none⟩,
 ⟨some 33, .bin .add (.tmp 32) (.const (.int .i64 1)), none⟩,
 ⟨some 9, .move (.tmp 33), none⟩])
 (.ops [⟨some 34, .move (.tmp 11), none⟩,
 ⟨some 10, .move (.tmp 34), none⟩]))))))))
 (.seq (.ops [⟨some 35, .move (.tmp 9), none⟩,
 ⟨some 36, .move (.tmp 9), none⟩,
 ⟨some 37, .move (.tmp 8), none⟩,
 ⟨some 38, .bin .lss (.tmp 36) (.tmp 37), none⟩,
 ⟨some 39, .move (.tmp 38), none⟩,
 ⟨some 40, .move (.tmp 2), some (39, true)⟩,
 ⟨some 41, .move (.tmp 0), some (39, true)⟩,
 ⟨some 42, .move (.tmp 9), some (39, true)⟩,
 ⟨some 43, .idxSl 4 (.tmp 41) (.tmp 42), some (39, true)⟩,
 ⟨some 44, .loadN 4 (.tmp 43), some (39, true)⟩,
 ⟨some 45, .move (.tmp 1), some (39, true)⟩,
 ⟨some 46, .callDyn (.tmp 40) [.tmp 44, .tmp 45], some (39, true)⟩,
 ⟨some 47, .bin .eql (.tmp 46) (.const (.int .i64 0)), some (39, true)⟩,
 ⟨some 48, .pick (.tmp 39) (.tmp 47) (.const (.bool false)), none⟩,
 ⟨some 6, .move (.tmp 35), none⟩,
 ⟨some 7, .move (.tmp 48), none⟩])
 (.ret)))))⟩
/-- A context has these functions. -/
structure HasAcc (c : Ctx) : Prop where
 acceptor_New : c.IP (c.F 177) = some (c_acceptor_New c.F c.Ty)
 acceptor_Acceptor_find : c.IP (c.F 178) = some (c_acceptor_Acceptor_find c.F c.Ty)
 acceptor_Acceptor_find_F1 : c.IP (c.F 179) = some (c_acceptor_Acceptor_find_F1 c.F c.Ty)
 acceptor_Acceptor_may : c.IP (c.F 180) = some (c_acceptor_Acceptor_may c.F c.Ty)
 acceptor_Acceptor_Promise : c.IP (c.F 181) = some (c_acceptor_Acceptor_Promise c.F c.Ty)
 acceptor_Acceptor_Accept : c.IP (c.F 182) = some (c_acceptor_Acceptor_Accept c.F c.Ty)
 acceptor_Acceptor_Promised : c.IP (c.F 184) = some (c_acceptor_Acceptor_Promised c.F c.Ty)
 acceptor_Acceptor_Votes : c.IP (c.F 185) = some (c_acceptor_Acceptor_Votes c.F c.Ty)
 acceptor_Acceptor_Base : c.IP (c.F 186) = some (c_acceptor_Acceptor_Base c.F c.Ty)
 slices_Insert_api_Vote_api_Vote : c.IP (c.F 187) = some (c_slices_Insert_api_Vote_api_Vote c.F c.Ty)
 slices_Clone_api_Vote_api_Vote : c.IP (c.F 188) = some (c_slices_Clone_api_Vote_api_Vote c.F c.Ty)
 slices_BinarySearchFunc_api_Vote_api_Vote_int : c.IP (c.F 189) = some (c_slices_BinarySearchFunc_api_Vote_api_Vote_int c.F c.Ty)

end Go.Proofs.YtpbbjfighohokaaI
namespace Go.Proofs.YtpbbjfighohokaaI
attribute [local simp] J0 J1 J2 J3 J4 J5 J6 J7 J8 J9 Ja Jb Jc Jd Je Jf Jg Jh Ji Jj Jk Jl Jm Jn Jo Jp Jq Jr Js Jt Ju Jv Jw Jx Jy Jz JA JB JC JD JE JF JG JH JI JJ JK JL JM JN JO JP JQ JR JS stillI IOp.kind JT JU JV JW JX JY JZ Y0 Y1 Y2 Y3 Y4 Y5 Y6 Y7 Y8 Y9 Ya Yb Yc Yd Ye Yf Yg Yh Yi Yj Yk Yl Ym Yn Yo Yp Yq ial Yr Ys Yt Yu Yv Yw Yx Yy ires iresL ires1 Yz YA YB YC YD YE bin2 YF YG YH YI YJ YK YL YM YN YO YP YQ YR YS YT YU un1 shOk eqL eq1 fillL putAt IHeap.load1 IHeap.loadL IHeap.storeL YV YW YX YY YZ B0 B1 B2 B3 B4 B5 B6 B7 B8 B9 Ba Bb Bc Bd Be Bf Bg Bh Bi Bj Bk Bl Bm Bn Bo Bp
set_option linter.unusedSimpArgs false
set_option linter.unusedVariables false
open Go

theorem put_end {L F new : List Value} (h : L.take F.length = F) (hl : F.length + new.length ≤ L.length) : ((putAt L F.length new).take (F.length + new.length)) = F ++ new := by
  unfold putAt
  rw [h, List.take_append_of_le_length (by simp)]
  rw [List.take_of_length_le (by simp)]
theorem put_len {L vs : List Value} {o : Nat} (h : o + vs.length ≤ L.length) : (putAt L o vs).length = L.length := by
  unfold putAt
  simp only [List.length_append, List.length_take, List.length_drop]; omega
/-- A row put in between. -/
theorem put_mid {L A B new : List Value} (h : L.take (A.length + B.length) = A ++ B) (hl : A.length + new.length + B.length ≤ L.length) :
    (putAt (putAt L (A.length + new.length) B) A.length new).take (A.length + new.length + B.length) = A ++ new ++ B := by
  have hA : L.take A.length = A := by
    have := congrArg (List.take A.length) h
    rwa [List.take_take, Nat.min_eq_left (by omega), List.take_left] at this
  have h1 : (putAt L (A.length + new.length) B).take A.length = A := by
    unfold putAt
    rw [List.append_assoc, List.take_append_of_le_length (by rw [List.length_take]; omega), List.take_take, Nat.min_eq_left (by omega), hA]
  have h2 : (putAt L (A.length + new.length) B).drop (A.length + new.length) = B ++ L.drop (A.length + new.length + B.length) := by
    unfold putAt
    rw [List.append_assoc, List.drop_append_of_le_length (by rw [List.length_take]; omega), List.drop_of_length_le (by rw [List.length_take]; omega), List.nil_append]
  unfold putAt at h1 h2 ⊢
  rw [h1, h2]
  rw [← List.append_assoc, List.take_append_of_le_length (by simp only [List.length_append]; omega), List.take_of_length_le (by simp only [List.length_append]; omega)]

section
variable (c : Ctx) (hc : HasAcc c) (hO : ∀ (H : IHeap) (K : Value → IHeap → Prop) (b1 o1 n1 c1 b2 o2 n2 c2 : Nat) (cs1 cs2 : List Value), b1 ≠ b2 → 0 < n1 → 0 < n2 → H.get b1 = some (.cells cs1 false) → H.get b2 = some (.cells cs2 false) → o1 ≤ cs1.length → cs2 ≠ [] → K (.bool false) H →
  c.C (c.F 190) [.slice (some ⟨b1, o1, none⟩) n1 c1, .slice (some ⟨b2, o2, none⟩) n2 c2] H K) {H : IHeap} {K : Value → IHeap → Prop}

include hc in
theorem Ins_nil {vb : Nat} {new : List Value} (hv : H.get vb = some (.cells new false)) (hn : new.length = 4) (hK : K (.slice (some ⟨H.next, 0, none⟩) 1 (UNK + 4)) (H.alloc (.cells new false))) :
    c.C (c.F n_slices_Insert_api_Vote_api_Vote) [.slice none 0 0, .int .i64 0, .slice (some ⟨vb, 0, none⟩) 1 1] H K := by
  refine c.enter hc.slices_Insert_api_Vote_api_Vote rfl ?_
  have s0 : sliceI H 4 none 0 0 0 0 none = some (.slice none 0 0) := by simp [sliceI, UNK]
  have f1 : firstI H 4 1 (.slice (some ⟨vb, 0, none⟩) 1 1) = some new := by simp [firstI, IHeap.loadL, hv, hn, List.take_of_length_le]
  have a1 : appendI H 4 40 (.slice none 0 0) 1 new = some (.slice (some ⟨H.next, 0, none⟩) 1 (UNK + 4), H.alloc (.cells new false)) := by simp [appendI, hn]
  simp -implicitDefEqProofs [c_slices_Insert_api_Vote_api_Vote, boundsI, natI, s0, lenOfI, f1, a1]
  exact hK

include hc hO in
theorem Ins_known {b cp n i vb : Nat} {L A B new : List Value} (hb : H.get b = some (.cells L false)) (hv : H.get vb = some (.cells new false)) (hne : vb ≠ b) (hvl : vb < H.next) (hbl : b < H.next) (hn : new.length = 4) (hn1 : new.all one1 = true)
    (hA : A.length = i * 4) (hB : B.length = (n - i) * 4) (hin : i ≤ n) (hnl : n ≤ 1000000) (hcp : n ≤ cp) (hcu : cp < UNK) (hL : L.take (A.length + B.length) = A ++ B) (hroom : cp = 0 ∨ cp * 4 ≤ L.length) (hone : (A ++ B).all one1 = true)
    (hK1 : ∀ L' H', n + 1 ≤ cp → L'.length = L.length → L'.take ((n + 1) * 4) = A ++ new ++ B → H'.next = H.next → H'.get b = some (.cells L' false) → (∀ x, x ≠ b → H'.get x = H.get x) → K (.slice (some ⟨b, 0, none⟩) (n + 1) cp) H')
    (hK2 : ∀ H', H.le H' → H'.next = H.next + 1 → H'.get H.next = some (.cells (A ++ new ++ B) false) → K (.slice (some ⟨H.next, 0, none⟩) (n + 1) (UNK + 4)) H') :
    c.C (c.F n_slices_Insert_api_Vote_api_Vote) [.slice (some ⟨b, 0, none⟩) n cp, .int .i64 i, .slice (some ⟨vb, 0, none⟩) 1 1] H K := by
  refine c.enter hc.slices_Insert_api_Vote_api_Vote rfl ?_
  have hAB : A.length + B.length = n * 4 := by rw [hA, hB]; omega
  obtain ⟨x0, hx0⟩ : ∃ x, sliceI H 4 (some ⟨b, 0, none⟩) n cp i n none = some x := by
    unfold sliceI
    rw [if_pos hcu, if_pos (by simp; omega)]
    exact ⟨_, rfl⟩
  have hi0 : (0 : Int) ≤ (i : Int) := by omega
  have f1 : firstI H 4 1 (.slice (some ⟨vb, 0, none⟩) 1 1) = some new := by simp [firstI, IHeap.loadL, hv, hn, List.take_of_length_le]
  by_cases hie : i = n
  · subst hie
    have hBn : B = [] := List.length_eq_zero_iff.1 (by rw [hB]; omega)
    subst hBn
    rw [List.append_nil] at hL hone hK1 hK2
    rw [List.length_nil, Nat.add_zero] at hL hAB
    by_cases hr : i + 1 ≤ cp
    · have hcl : cp * 4 ≤ L.length := hroom.resolve_left (by omega)
      obtain ⟨L1, hL1⟩ : ∃ L1, L1 = putAt L (i * 4) new := ⟨_, rfl⟩
      have a1 : appendI H 4 40 (.slice (some ⟨b, 0, none⟩) i cp) 1 new = some (.slice (some ⟨b, 0, none⟩) (i + 1) cp, H.set b (.cells L1 false)) := by
        simp only [appendI, IHeap.storeL, hb]
        rw [if_pos ⟨by omega, by omega, by omega, by omega, by omega⟩, if_neg (by omega), if_pos ⟨hcu, hr⟩, if_pos ⟨by omega, hn1⟩, hL1]
        simp
      simp -implicitDefEqProofs [c_slices_Insert_api_Vote_api_Vote, boundsI, natI, hx0, lenOfI, f1, a1]
      refine hK1 L1 _ hr (by rw [hL1]; exact put_len (by omega)) ?_ rfl (by rw [YW, if_pos rfl]) fun x hx => by rw [YW, if_neg hx]
      have := put_end (L := L) (F := A) (new := new) hL (by omega)
      rw [hA, hn] at this
      rw [show (i + 1) * 4 = i * 4 + 4 by omega, hL1]
      exact this
    · have f2 : firstI H 4 i (.slice (some ⟨b, 0, none⟩) i cp) = some A := by
        simp only [firstI, IHeap.loadL, hb]
        by_cases hz : i * 4 = 0
        · rw [if_pos hz]
          have : A = [] := List.length_eq_zero_iff.1 (by rw [hA]; exact hz)
          rw [this]
        · rw [if_neg hz, if_pos (by have := congrArg List.length hL; rw [List.length_take] at this; omega), List.drop_zero, ← hA, hL]
      have a1 : appendI H 4 40 (.slice (some ⟨b, 0, none⟩) i cp) 1 new = some (.slice (some ⟨H.next, 0, none⟩) (i + 1) (UNK + 4), H.alloc (.cells (A ++ new) false)) := by
        simp only [appendI, f2]
        rw [if_pos ⟨by omega, by omega, by omega, by omega, by omega⟩, if_neg (by omega), if_neg (by omega), if_pos hcu]
      simp -implicitDefEqProofs [c_slices_Insert_api_Vote_api_Vote, boundsI, natI, hx0, lenOfI, f1, a1]
      exact hK2 _ (H.le_alloc _) rfl (by rw [YV, if_pos rfl])
  · have hilt : i < n := by omega
    have hcl : cp * 4 ≤ L.length := hroom.resolve_left (by omega)
    have hieI : ¬ (i : Int) = (n : Int) := by omega
    have w1 : IntKind.i64.wrap ((n : Int) + 1) = (n : Int) + 1 := wrap64 (by omega) (by omega)
    have w2 : IntKind.i64.wrap ((i : Int) + 1) = (i : Int) + 1 := wrap64 (by omega) (by omega)
    have q1 : (0 : Int) ≤ (n : Int) + 1 := by omega
    have q2 : (0 : Int) ≤ (i : Int) + 1 := by omega
    have t1 : ((n : Int) + 1).toNat = n + 1 := by omega
    have t2 : ((i : Int) + 1).toNat = i + 1 := by omega
    have hLn : n * 4 ≤ L.length := by omega
    have hLA : (L.take A.length) = A := by
      have := congrArg (List.take A.length) hL
      rwa [List.take_take, Nat.min_eq_left (by omega), List.take_left] at this
    have hLB : (L.drop (i * 4)).take ((n - i) * 4) = B := by
      have := congrArg (List.drop A.length) hL
      rw [List.drop_left, List.drop_take, Nat.add_sub_cancel_left, hA, hB] at this
      exact this
    have hBn : 0 < (n - i) * 4 := by omega
    have hn1' : ∀ x ∈ new, one1 x = true := List.all_eq_true.1 hn1
    have hnn : ¬ new = [] := by intro e; rw [e] at hn; simp at hn
    have hBnn : ¬ B = [] := by intro e; rw [e] at hB; simp at hB; omega
    have hB1 : B.all one1 = true := by rw [List.all_append, Bool.and_eq_true] at hone; exact hone.2
    have hB1' : ∀ x ∈ B, one1 x = true := List.all_eq_true.1 hB1
    by_cases hr : n + 1 ≤ cp
    · have hrI : ¬ (cp : Int) < (n : Int) + 1 := by omega
      have s60 : sliceI H 4 (some ⟨b, 0, none⟩) n cp 0 (n + 1) none = some (.slice (some ⟨b, 0, none⟩) (n + 1) cp) := by
        unfold sliceI
        rw [if_pos hcu, if_pos (by simp; omega)]
        simp only [Option.getD_none, Nat.sub_zero]
        rw [if_neg (by omega)]
        simp [Addr.add]
      have sI : ∀ (X : IHeap) (k : Nat), k ≤ n → sliceI X 4 (some ⟨b, 0, none⟩) (n + 1) cp k (n + 1) none = some (.slice (some ⟨b, k * 4, none⟩) (n + 1 - k) (cp - k)) := by
        intro X k hk
        unfold sliceI
        rw [if_pos hcu, if_pos (by simp; omega)]
        simp only [Option.getD_none]
        rw [if_neg (by omega)]
        simp only [addr_add, Nat.zero_add]
      have s66 := sI H (i + 1) (by omega)
      have s76 := sI H i (by omega)
      have e1 : n + 1 - (i + 1) = n - i := by omega
      rw [e1] at s66
      have ii : i ≤ n + 1 := by omega
      have ii2 : i + 1 ≤ n + 1 := by omega
      have m1 : Nat.min (n + 1 - i) (n - i) = n - i := Nat.min_eq_right (by omega)
      have m2 : Nat.min 1 (n + 1 - i) = 1 := Nat.min_eq_left (by omega)
      have m1' : min (n + 1 - i) (n - i) = n - i := Nat.min_eq_right (by omega)
      have m2' : min 1 (n + 1 - i) = 1 := Nat.min_eq_left (by omega)
      have fB : firstI H 4 (n - i) (.slice (some ⟨b, i * 4, none⟩) (n + 1 - i) (cp - i)) = some B := by
        simp only [firstI, IHeap.loadL, hb]
        rw [if_neg (by omega), if_pos (by omega), hLB]
      have hBl : ¬ B.length = 0 := by omega
      have hnl0 : ¬ new.length = 0 := by omega
      obtain ⟨L1, hL1⟩ : ∃ L1, L1 = putAt L ((i + 1) * 4) B := ⟨_, rfl⟩
      have l1 : L1.length = L.length := by rw [hL1]; exact put_len (by omega)
      have st1 : H.storeL b ((i + 1) * 4) B = some (H.set b (.cells L1 false)) := by
        simp only [IHeap.storeL, hb]
        rw [if_pos ⟨by omega, hB1⟩, hL1]
      obtain ⟨H1, hH1⟩ : ∃ X : IHeap, X = H.set b (.cells L1 false) := ⟨_, rfl⟩
      rw [← hH1] at st1
      have g1 : H1.get b = some (.cells L1 false) := by rw [hH1, YW, if_pos rfl]
      have gv : H1.get vb = some (.cells new false) := by rw [hH1, YW, if_neg hne]; exact hv
      have f2 : firstI H1 4 1 (.slice (some ⟨vb, 0, none⟩) 1 1) = some new := by simp [firstI, IHeap.loadL, gv, hn, List.take_of_length_le]
      have s80 := sI H1 i (by omega)
      obtain ⟨L2, hL2⟩ : ∃ L2, L2 = putAt L1 (i * 4) new := ⟨_, rfl⟩
      have st2 : H1.storeL b (i * 4) new = some (H1.set b (.cells L2 false)) := by
        simp only [IHeap.storeL, g1]
        rw [if_pos ⟨by omega, hn1⟩, hL2]
      simp -implicitDefEqProofs [c_slices_Insert_api_Vote_api_Vote, boundsI, natI, hin, hx0, lenOfI, hie, hieI, w1, w2, hcu, hrI, q1, q2, t1, t2, s60, s66, ii, ii2]
      refine call_of (hO _ _ _ _ _ _ _ _ _ _ _ _ hne (by omega) (by omega) hv hb (by omega) (by intro e; rw [e] at hcl; simp at hcl; omega) ?_)
      have k1 : (i + 1) * 4 + B.length ≤ L.length := by omega
      have k2 : i * 4 + new.length ≤ L1.length := by omega
      have fo1 : List.take ((i + 1) * 4) L ++ (B ++ List.drop ((i + 1) * 4 + B.length) L) = L1 := by rw [hL1, putAt, List.append_assoc]
      have fo2 : List.take (i * 4) L1 ++ (new ++ List.drop (i * 4 + new.length) L1) = L2 := by rw [hL2, putAt, List.append_assoc]
      simp -implicitDefEqProofs [boundsI, natI, w2, q2, t2, s66, s76, ii, ii2, lenOfI, m1, m1', fB, hBnn, hb, k1, hB1, fo1, ← hH1, s80, m2, m2', f2, hnn, g1, k2, hn1, fo2, -List.all_eq_true]
      have nx : (H1.set b (.cells L2 false)).next = H.next := by rw [hH1]; rfl
      refine hK1 L2 _ hr (by rw [hL2, put_len (by omega), l1]) ?_ nx (by rw [YW, if_pos rfl]) fun x hx => by rw [YW, if_neg hx, hH1, YW, if_neg hx]
      have := put_mid (L := L) (A := A) (B := B) (new := new) hL (by omega)
      rw [hA, hn, hB, show i * 4 + 4 = (i + 1) * 4 by omega, ← hL1, ← hL2] at this
      rw [show (n + 1) * 4 = (i + 1) * 4 + (n - i) * 4 by omega]
      exact this
    · have hrI : (cp : Int) < (n : Int) + 1 := by omega
      have w3 : IntKind.i64.wrap ((n : Int) + 1 - (i : Int)) = (n : Int) + 1 - (i : Int) := wrap64 (by omega) (by omega)
      obtain ⟨kk, hkk⟩ : ∃ kk, kk = n + 1 - i := ⟨_, rfl⟩
      have c1 : (0 : Int) ≤ (n : Int) + 1 - (i : Int) := by omega
      have c2 : ((n : Int) + 1 - (i : Int)) * 40 ≤ 17592186044416 := by omega
      have c3 : (n : Int) + 1 - (i : Int) ≤ 17592186044416 := by omega
      have c4 : ((n : Int) + 1 - (i : Int)).toNat = kk := by omega
      have s34 : sliceI H 4 (some ⟨b, 0, none⟩) n cp 0 i none = some (.slice (some ⟨b, 0, none⟩) i cp) := by
        unfold sliceI
        rw [if_pos hcu, if_pos (by simp; omega)]
        simp only [Option.getD_none, Nat.sub_zero]
        rw [if_neg (by omega)]
        simp [Addr.add]
      obtain ⟨Z, hZ⟩ : ∃ Z, Z = (Builtin.zeroCells #[Value.int .i64 0, .int .i64 0, .int .i64 0, .string ⟨#[]⟩] kk).toList := ⟨_, rfl⟩
      have hZl : Z.length = kk * 4 := by rw [hZ, Array.length_toList, zeroCells_size]; rfl
      have fA : firstI H 4 i (.slice (some ⟨b, 0, none⟩) i cp) = some A := by
        simp only [firstI, IHeap.loadL, hb]
        by_cases hz : i * 4 = 0
        · rw [if_pos hz]
          have : A = [] := List.length_eq_zero_iff.1 (by rw [hA]; exact hz)
          rw [this]
        · rw [if_neg hz, if_pos (by omega), List.drop_zero, ← hA, hLA]
      obtain ⟨H1, hH1⟩ : ∃ X : IHeap, X = H.alloc (.cells (A ++ Z) false) := ⟨_, rfl⟩
      have a1 : appendI H 4 40 (.slice (some ⟨b, 0, none⟩) i cp) kk Z = some (.slice (some ⟨H.next, 0, none⟩) (n + 1) (UNK + 4), H1) := by
        simp only [appendI, fA]
        rw [if_pos ⟨by omega, by omega, by omega, by omega, by omega⟩, if_neg (by omega), if_neg (by omega), if_pos hcu, hH1, show i + kk = n + 1 by omega]
      have g1 : H1.get H.next = some (.cells (A ++ Z) false) := by rw [hH1, YV, if_pos rfl]
      have gb1 : H1.get b = some (.cells L false) := by rw [hH1, YV, if_neg (by omega)]; exact hb
      have gv1 : H1.get vb = some (.cells new false) := by rw [hH1, YV, if_neg (by omega)]; exact hv
      have sG : ∀ (X : IHeap) (k : Nat), k ≤ n → sliceI X 4 (some ⟨H.next, 0, none⟩) (n + 1) (UNK + 4) k (n + 1) none = some (.slice (some ⟨H.next, k * 4, none⟩) (n + 1 - k) (UNK + 4)) := by
        intro X k hk
        unfold sliceI
        rw [if_neg (by omega)]
        simp
      have s43 := sG H1 i (by omega)
      have f1' : firstI H1 4 1 (.slice (some ⟨vb, 0, none⟩) 1 1) = some new := by simp [firstI, IHeap.loadL, gv1, hn, List.take_of_length_le]
      obtain ⟨L1, hL1⟩ : ∃ L1, L1 = putAt (A ++ Z) (i * 4) new := ⟨_, rfl⟩
      have l1 : L1.length = (n + 1) * 4 := by rw [hL1, put_len (by rw [List.length_append]; omega), List.length_append]; omega
      obtain ⟨H2, hH2⟩ : ∃ X : IHeap, X = H1.set H.next (.cells L1 false) := ⟨_, rfl⟩
      have st1 : H1.storeL H.next (i * 4) new = some H2 := by
        simp only [IHeap.storeL, g1]
        rw [if_pos ⟨by rw [List.length_append]; omega, hn1⟩, hH2, hL1]
      have g2 : H2.get H.next = some (.cells L1 false) := by rw [hH2, YW, if_pos rfl]
      have gb2 : H2.get b = some (.cells L false) := by rw [hH2, YW, if_neg (by omega)]; exact gb1
      have s50 := sG H2 (i + 1) (by omega)
      rw [show n + 1 - (i + 1) = n - i by omega] at s50
      have s53 : sliceI H2 4 (some ⟨b, 0, none⟩) n cp i n none = some (.slice (some ⟨b, i * 4, none⟩) (n - i) (cp - i)) := by
        unfold sliceI
        rw [if_pos hcu, if_pos (by simp; omega)]
        simp only [Option.getD_none]
        rw [if_neg (by omega)]
        simp only [addr_add, Nat.zero_add]
      have fB : firstI H2 4 (n - i) (.slice (some ⟨b, i * 4, none⟩) (n - i) (cp - i)) = some B := by
        simp only [firstI, IHeap.loadL, gb2]
        rw [if_neg (by omega), if_pos (by omega), hLB]
      obtain ⟨L2, hL2⟩ : ∃ L2, L2 = putAt L1 ((i + 1) * 4) B := ⟨_, rfl⟩
      have st2 : H2.storeL H.next ((i + 1) * 4) B = some (H2.set H.next (.cells L2 false)) := by
        simp only [IHeap.storeL, g2]
        rw [if_pos ⟨by omega, hB1⟩, hL2]
      have ii : i ≤ n + 1 := by omega
      have ii2 : i + 1 ≤ n + 1 := by omega
      have m1 : Nat.min (n - i) (n - i) = n - i := Nat.min_self _
      have m2 : Nat.min 1 (n + 1 - i) = 1 := Nat.min_eq_left (by omega)
      have m2' : min 1 (n + 1 - i) = 1 := Nat.min_eq_left (by omega)
      have hBl : ¬ B.length = 0 := by omega
      have hnl0 : ¬ new.length = 0 := by omega
      have hE : L2 = A ++ new ++ B := by
        have e1 : L1 = A ++ new ++ Z.drop 4 := by
          rw [hL1]
          unfold putAt
          rw [← hA, List.take_left, List.drop_append, List.drop_of_length_le (by omega), hn, Nat.add_sub_cancel_left]
          simp
        have l3 : L2.length = L1.length := by rw [hL2]; exact put_len (by omega)
        rw [hL2]
        unfold putAt
        have e2 : (i + 1) * 4 = (A ++ new).length := by rw [List.length_append]; omega
        rw [List.drop_of_length_le (by omega), List.append_nil, e2]
        conv => lhs; rw [e1]
        rw [List.take_left]
      have c1' : (i : Int) ≤ (n : Int) + 1 := by omega
      have hAZ : (A ++ Z).length = (n + 1) * 4 := by rw [List.length_append]; omega
      obtain ⟨Y, hY⟩ : ∃ Y, Y = A ++ Z := ⟨_, rfl⟩
      rw [← hY] at g1 hL1 hAZ
      have k1 : i * 4 + new.length ≤ Y.length := by omega
      have k2 : (i + 1) * 4 + B.length ≤ L1.length := by omega
      have fo1 : List.take (i * 4) Y ++ (new ++ List.drop (i * 4 + new.length) Y) = L1 := by rw [hL1, putAt, List.append_assoc]
      have fo2 : List.take ((i + 1) * 4) L1 ++ (B ++ List.drop ((i + 1) * 4 + B.length) L1) = L2 := by rw [hL2, putAt, List.append_assoc]
      simp -implicitDefEqProofs [c_slices_Insert_api_Vote_api_Vote, boundsI, natI, hin, hx0, lenOfI, hie, hieI, w1, w2, w3, hcu, hrI, s34, c1, c1', c2, c3, c4, ← hZ, a1, s43, ii, q2, t2, m2, m2', f1', hnn, g1, k1, hn1, fo1, ← hH2, ii2, s50, s53, m1, fB, hBnn, g2, k2, hB1, fo2, -List.all_eq_true]
      refine hK2 _ (by rw [hH2, hH1]; exact ((H.le_alloc _).set (Nat.le_refl _) _).set (Nat.le_refl _) _) (by rw [hH2, hH1]; rfl) (by rw [YW, if_pos rfl, hE])

end
end Go.Proofs.YtpbbjfighohokaaI
namespace Go.Proofs.YtpbbjfighohokaaI
set_option linter.unusedSimpArgs false
set_option linter.unusedVariables false
open Go

/-- An own slice, with room behind it maybe. -/
def VS (H : IHeap) (q : Nat) (u : Value) (rows : List (List Value)) : Prop := (rows = [] ∧ u = .slice none 0 0) ∨ ∃ cs, q < H.next ∧ u = .slice (some ⟨q, 0, none⟩) rows.length (UNK + 4) ∧ H.get q = some (.cells cs false) ∧ cs.take (rows.length * 4) = rows.flatten ∧ rows.length * 4 ≤ cs.length
theorem VS.upd {H H' : IHeap} {S : List Nat} {q : Nat} {u : Value} {rows : List (List Value)} (h : VS H q u rows) (hu : IHeap.upd S H H') (hq : q ∉ S) : VS H' q u rows := by
  rcases h with h | ⟨cs, a, b, c, d, e⟩
  · exact .inl h
  · exact .inr ⟨cs, Nat.lt_of_lt_of_le a hu.next, b, (hu.get q a hq).trans c, d, e⟩
theorem VS.le {H H' : IHeap} {q : Nat} {u : Value} {rows : List (List Value)} (h : VS H q u rows) (hu : H.le H') : VS H' q u rows := h.upd (hu.upd []) (by simp)
theorem VS.slw {H : IHeap} {q : Nat} {u : Value} {rows : List (List Value)} (h : VS H q u rows) (h4 : ∀ r ∈ rows, r.length = 4) : SlW H 4 u rows := by
  rcases h with ⟨rfl, rfl⟩ | ⟨cs, a, rfl, c, d, e⟩
  · exact SlW.nil H 4
  · refine ⟨⟨_, _, rfl, fun _ => ⟨q, 0, cs, false, rfl, a, c, fun i r hr => ?_⟩⟩, _, _, rfl, .inr ⟨_, _, rfl⟩, .inr ⟨rfl, by simp⟩⟩
    obtain ⟨f1, f2⟩ := flat_row rows 4 i r h4 hr
    have hfl := flat_len rows 4 h4
    refine ⟨h4 r (List.mem_of_getElem? hr), ?_, by omega⟩
    rw [← f1, ← d, Nat.zero_add, List.drop_take, List.take_take, Nat.min_eq_left (by omega)]
theorem VS.lenv {H : IHeap} {q : Nat} {u : Value} {rows : List (List Value)} (h : VS H q u rows) : ∃ a cap, u = .slice a rows.length cap := by
  rcases h with ⟨rfl, rfl⟩ | ⟨cs, _, rfl, _⟩
  · exact ⟨_, _, rfl⟩
  · exact ⟨_, _, rfl⟩

theorem flat_split (rows : List (List Value)) (i : Nat) : rows.flatten = (rows.take i).flatten ++ (rows.drop i).flatten := by
  conv => lhs; rw [← List.take_append_drop i rows]
  rw [List.flatten_append]

section
variable (c c0 : Ctx) (hc : HasAcc c0) (hO : ∀ (H : IHeap) (K : Value → IHeap → Prop) (b1 o1 n1 c1 b2 o2 n2 c2 : Nat) (cs1 cs2 : List Value), b1 ≠ b2 → 0 < n1 → 0 < n2 → H.get b1 = some (.cells cs1 false) → H.get b2 = some (.cells cs2 false) → o1 ≤ cs1.length → cs2 ≠ [] → K (.bool false) H →
  c0.C (c0.F 190) [.slice (some ⟨b1, o1, none⟩) n1 c1, .slice (some ⟨b2, o2, none⟩) n2 c2] H K)
  (hX : ∀ (s : Value) (r : List Value) (H : IHeap) (K : Value → IHeap → Prop), Reveal H 4 s (fun t H1 => c0.C (c0.F n_slices_Insert_api_Vote_api_Vote) (t :: r) H1 fun v H2 => Hide H2 4 v K) → c.C (c.F n_slices_Insert_api_Vote_api_Vote) (s :: r) H K)
  {H : IHeap} {K : Value → IHeap → Prop}

include hc hO hX in
theorem Ins_ok {q vb i : Nat} {u : Value} {rows : List (List Value)} {new : List Value} (hu : VS H q u rows) (h4 : ∀ r ∈ rows, r.length = 4) (hone : rows.flatten.all one1 = true)
    (hv : H.get vb = some (.cells new false)) (hvl : vb < H.next) (hne : vb ≠ q) (hn : new.length = 4) (hn1 : new.all one1 = true) (hi : i ≤ rows.length) (hl : rows.length ≤ 1000000)
    (hK : ∀ q' H', IHeap.upd [q] H H' → H.next ≤ q' → VS H' q' (.slice (some ⟨q', 0, none⟩) (rows.length + 1) (UNK + 4)) (rows.take i ++ new :: rows.drop i) → K (.slice (some ⟨q', 0, none⟩) (rows.length + 1) (UNK + 4)) H') :
    c.C (c.F n_slices_Insert_api_Vote_api_Vote) [u, .int .i64 i, .slice (some ⟨vb, 0, none⟩) 1 1] H K := by
  refine hX u _ H K ?_
  have hlen : (rows.take i ++ new :: rows.drop i).length = rows.length + 1 := by simp; omega
  have hflat : (rows.take i ++ new :: rows.drop i).flatten = (rows.take i).flatten ++ new ++ (rows.drop i).flatten := by rw [List.flatten_append, List.flatten_cons, List.append_assoc]
  have hA : ((rows.take i).flatten).length = i * 4 := by rw [flat_len _ 4 fun r hr => h4 r (List.mem_of_mem_take hr), List.length_take]; omega
  have hB : ((rows.drop i).flatten).length = (rows.length - i) * 4 := by rw [flat_len _ 4 fun r hr => h4 r (List.mem_of_mem_drop hr), List.length_drop]
  have hall : ((rows.take i).flatten ++ new ++ (rows.drop i).flatten).length = (rows.length + 1) * 4 := by simp only [List.length_append]; omega
  rcases hu with ⟨rfl, rfl⟩ | ⟨cs, hq, rfl, hg, hcs, hcl⟩
  · refine .inl ⟨rfl, ?_⟩
    have hi0 : i = 0 := by simpa using hi
    subst hi0
    refine Ins_nil c0 hc hv hn (.inl (hK H.next _ ((H.le_alloc _).upd _) (Nat.le_refl _) (.inr ⟨new, by simp [YX], rfl, by rw [YV, if_pos rfl], by simp [hn, List.take_of_length_le], by simp [hn]⟩)))
  · refine .inr ⟨q, 0, rows.length, cs, rfl, hg, fun cp junk hcp hcu hroom => ?_⟩
    have hR : ∀ x, x < H.next → x ≠ q → ((H.set q .dead).alloc (.cells (cs ++ junk) false)).get x = H.get x := fun x h1 h2 => by
      rw [YV, YY, if_neg (by omega), YW, if_neg h2]
    have hRn : ((H.set q .dead).alloc (.cells (cs ++ junk) false)).next = H.next + 1 := rfl
    have hRg : ((H.set q .dead).alloc (.cells (cs ++ junk) false)).get H.next = some (.cells (cs ++ junk) false) := by rw [YV, YY, if_pos rfl]
    obtain ⟨HR, hHR⟩ : ∃ X : IHeap, X = (H.set q .dead).alloc (.cells (cs ++ junk) false) := ⟨_, rfl⟩
    rw [← hHR] at hR hRn hRg ⊢
    refine Ins_known c0 hc hO (A := (rows.take i).flatten) (B := (rows.drop i).flatten) hRg ((hR vb hvl hne).trans hv) (by omega) (by omega) (by omega) hn hn1 hA hB hi hl hcp hcu ?_ (hroom.imp id fun h => by omega) (by rw [← flat_split]; exact hone) (fun L' H' hr hL1 hL2 hnx hgb hoth => ?_) (fun H' hle hnx hgn => ?_)
    · rw [← flat_split, ← hcs, hA, hB, show i * 4 + (rows.length - i) * 4 = rows.length * 4 by omega, List.take_append_of_le_length hcl]
    · have hcl2 : 0 + cp * 4 ≤ (cs ++ junk).length := hroom.resolve_left (by omega)
      refine .inr ⟨H.next, 0, rows.length + 1, cp, L', rfl, hcu, hgb, hr, by omega, ?_⟩
      rw [hnx, hRn]
      refine hK (H.next + 1) _ ⟨by simp only [YX, YY]; omega, fun x h1 h2 => ?_⟩ (by omega) (.inr ⟨_, by simp only [YX, YY]; omega, by rw [hlen], by rw [YV, YY, if_pos (by omega)], ?_, ?_⟩)
      · simp only [List.mem_singleton] at h2
        rw [YV, YY, if_neg (by omega), YW, if_neg (by omega), hoth x (by omega), hR x h1 h2]
      · rw [hlen, List.drop_zero, List.take_take, Nat.min_self, hL2, hflat]
      · rw [hlen, List.drop_zero, hL2, hall]; exact Nat.le_refl _
    · rw [hRn] at hgn ⊢
      refine .inl (hK (H.next + 1) H' ⟨by have := hle.next; omega, fun x h1 h2 => ?_⟩ (by omega) (.inr ⟨_, by omega, by rw [hlen], hgn, ?_, ?_⟩))
      · simp only [List.mem_singleton] at h2
        rw [hle.get x (by omega), hR x h1 h2]
      · rw [hlen, hflat, List.take_of_length_le (by omega)]
      · rw [hlen, hall]; exact Nat.le_refl _

end
end Go.Proofs.YtpbbjfighohokaaI
namespace Go.Proofs.YtpbbjfighohokaaI
attribute [local simp] J0 J1 J2 J3 J4 J5 J6 J7 J8 J9 Ja Jb Jc Jd Je Jf Jg Jh Ji Jj Jk Jl Jm Jn Jo Jp Jq Jr Js Jt Ju Jv Jw Jx Jy Jz JA JB JC JD JE JF JG JH JI JJ JK JL JM JN JO JP JQ JR JS stillI IOp.kind JT JU JV JW JX JY JZ Y0 Y1 Y2 Y3 Y4 Y5 Y6 Y7 Y8 Y9 Ya Yb Yc Yd Ye Yf Yg Yh Yi Yj Yk Yl Ym Yn Yo Yp Yq ial Yr Ys Yt Yu Yv Yw Yx Yy ires iresL ires1 Yz YA YB YC YD YE bin2 YF YG YH YI YJ YK YL YM YN YO YP YQ YR YS YT YU un1 shOk eqL eq1 fillL putAt IHeap.load1 IHeap.loadL IHeap.storeL YV YW YX YY YZ B0 B1 B2 B3 B4 B5 B6 B7 B8 B9 Ba Bb Bc Bd Be Bf Bg Bh Bi Bj Bk Bl Bm Bn Bo Bp
set_option linter.unusedSimpArgs false
set_option linter.unusedVariables false
open Go

theorem wrapU17 {n : Int} (h : 0 ≤ n) (k : n < 18446744073709551616) : IntKind.u64.wrap n = n := by
  have e1 : (2 ^ IntKind.u64.bits : Int) = 18446744073709551616 := by decide
  unfold IntKind.wrap
  simp only [e1, IntKind.signed, Bool.false_and]
  rw [if_neg (by simp)]
  omega
theorem shrU17 (a : Nat) : shrW .u64 (a : Int) 1 = ((a / 2 : Nat) : Int) := by
  have e : (2 : Int) ^ min (Int.toNat 1) IntKind.u64.bits = 2 := by decide
  unfold shrW
  rw [e, Int.fdiv_eq_ediv_of_nonneg _ (by omega)]
  omega
theorem row_get {cs r : List Value} {p n : Nat} (h : (cs.drop p).take n = r) (j : Nat) (hj : j < n) : cs[p + j]? = r[j]? := by
  rw [← h, List.getElem?_take, if_pos hj, List.getElem?_drop]

def Sorted (L : List VoteD) : Prop := L.Pairwise fun a b => a.slot < b.slot
/-- Where a slot stands, or would. -/
def posV (s : Int) : List VoteD → Nat
  | [] => 0
  | v :: L => if v.slot < s then posV s L + 1 else 0
def thereV (L : List VoteD) (s : Int) : Bool := match L[posV s L]? with | some v => decide (v.slot = s) | none => false
theorem posV_le (s : Int) : ∀ L : List VoteD, posV s L ≤ L.length
  | [] => Nat.le_refl _
  | v :: L => by
    have := posV_le s L
    simp only [posV, List.length_cons]
    split <;> omega
theorem posV_lt {s : Int} : ∀ {L : List VoteD} {i : Nat} {v : VoteD}, i < posV s L → L[i]? = some v → v.slot < s
  | [], i, v, h, _ => by simp [posV] at h
  | w :: L, i, v, h, hv => by
    simp only [posV] at h
    split at h
    · cases i with
      | zero =>
        simp only [List.getElem?_cons_zero, Option.some.injEq] at hv
        subst hv; assumption
      | succ i => exact posV_lt (L := L) (i := i) (by omega) hv
    · omega
theorem posV_ge {s : Int} : ∀ {L : List VoteD}, Sorted L → ∀ {i : Nat} {v : VoteD}, posV s L ≤ i → L[i]? = some v → s ≤ v.slot
  | [], _, i, v, _, hv => by simp at hv
  | w :: L, hs, i, v, h, hv => by
    have hs' := List.pairwise_cons.1 hs
    simp only [posV] at h
    split at h
    · obtain ⟨j, rfl⟩ : ∃ j, i = j + 1 := ⟨i - 1, by omega⟩
      exact posV_ge (L := L) hs'.2 (i := j) (by omega) hv
    · rename_i hn
      cases i with
      | zero =>
        simp only [List.getElem?_cons_zero, Option.some.injEq] at hv
        subst hv; omega
      | succ i =>
        have := hs'.1 v (List.mem_of_getElem? hv)
        omega
def fromV (L : List VoteD) (s : Int) : List VoteD := L.filter fun v => decide (s ≤ v.slot)
theorem fromV_drop {s : Int} : ∀ {L : List VoteD}, Sorted L → fromV L s = L.drop (posV s L)
  | [], _ => rfl
  | w :: L, hs => by
    have hs' := List.pairwise_cons.1 hs
    have ih := fromV_drop (s := s) hs'.2
    unfold fromV at ih ⊢
    simp only [posV, List.filter_cons]
    by_cases h : w.slot < s
    · rw [if_pos h, if_neg (by simp; omega), ih]; rfl
    · rw [if_neg h, if_pos (by simp; omega), List.drop_zero]
      congr 1
      rw [List.filter_eq_self]
      intro v hv
      have := hs'.1 v hv
      simp; omega
/-- With a vote. -/
def putV (L : List VoteD) (v : VoteD) : List VoteD := (L.filter fun x => decide (x.slot < v.slot)) ++ v :: (L.filter fun x => decide (v.slot < x.slot))
theorem lessV {s : Int} : ∀ {L : List VoteD}, Sorted L → (L.filter fun x => decide (x.slot < s)) = L.take (posV s L)
  | [], _ => rfl
  | w :: L, hs => by
    have hs' := List.pairwise_cons.1 hs
    have ih := lessV (s := s) hs'.2
    simp only [posV, List.filter_cons]
    by_cases h : w.slot < s
    · rw [if_pos h, if_pos (by simpa using h), ih]; rfl
    · rw [if_neg h, if_neg (by simpa using h), List.take_zero]
      rw [List.filter_eq_nil_iff]
      intro v hv
      have := hs'.1 v hv
      simp; omega
theorem moreV {L : List VoteD} (hs : Sorted L) (s : Int) : (L.filter fun x => decide (s < x.slot)) = L.drop (posV s L + if thereV L s then 1 else 0) := by
  have h1 : (L.filter fun x => decide (s < x.slot)) = fromV L (s + 1) := by
    unfold fromV
    congr 1
  rw [h1, fromV_drop hs]
  congr 1
  clear h1
  induction L with
  | nil => rfl
  | cons w L ih =>
    have hs' := List.pairwise_cons.1 hs
    simp only [posV]
    by_cases h : w.slot < s
    · rw [if_pos h, if_pos (by omega), ih hs'.2]
      have : thereV (w :: L) s = thereV L s := by simp [thereV, posV, h]
      rw [this]; omega
    · rw [if_neg h]
      by_cases he : w.slot = s
      · have : thereV (w :: L) s = true := by simp [thereV, posV, h, he]
        rw [if_pos (by omega), this, if_pos rfl]
        have hz : posV (s + 1) L = 0 := by
          cases L with
          | nil => rfl
          | cons u L =>
            have := hs'.1 u (by simp)
            simp only [posV]
            rw [if_neg (by omega)]
        omega
      · have : thereV (w :: L) s = false := by simp [thereV, posV, h, he]
        rw [if_neg (by omega), this]; simp
theorem putV_in {L : List VoteD} (hs : Sorted L) {v : VoteD} (h : thereV L v.slot = true) : putV L v = L.set (posV v.slot L) v := by
  have hp : posV v.slot L < L.length := by
    unfold thereV at h
    cases hq : L[posV v.slot L]? with
    | none => rw [hq] at h; cases h
    | some w => exact (List.getElem?_eq_some_iff.1 hq).1
  rw [putV, lessV hs, moreV hs, h, if_pos rfl, List.set_eq_take_append_cons_drop, if_pos hp]
theorem putV_new {L : List VoteD} (hs : Sorted L) {v : VoteD} (h : thereV L v.slot = false) : putV L v = L.take (posV v.slot L) ++ v :: L.drop (posV v.slot L) := by
  rw [putV, lessV hs, moreV hs, h]
  simp
theorem putV_sorted {L : List VoteD} (hs : Sorted L) (v : VoteD) : Sorted (putV L v) := by
  unfold Sorted putV
  rw [List.pairwise_append]
  refine ⟨hs.filter _, List.pairwise_cons.2 ⟨fun x hx => ?_, hs.filter _⟩, fun x hx y hy => ?_⟩
  · simpa using (List.mem_filter.1 hx).2
  · have h1 : x.slot < v.slot := by simpa using (List.mem_filter.1 hx).2
    rcases List.mem_cons.1 hy with rfl | hy
    · exact h1
    · have h2 : v.slot < y.slot := by simpa using (List.mem_filter.1 hy).2
      omega
theorem putV_len (L : List VoteD) (v : VoteD) : (putV L v).length ≤ L.length + 1 := by
  unfold putV
  rw [List.length_append, List.length_cons]
  have : ∀ L : List VoteD, (L.filter fun x => decide (x.slot < v.slot)).length + (L.filter fun x => decide (v.slot < x.slot)).length ≤ L.length := by
    intro L
    induction L with
    | nil => simp
    | cons w L ih =>
      simp only [List.filter_cons, List.length_cons]
      by_cases h1 : w.slot < v.slot
      · rw [if_pos (by simpa using h1), if_neg (by simp; omega)]
        simp only [List.length_cons]; omega
      · rw [if_neg (by simpa using h1)]
        split
        · simp only [List.length_cons]; omega
        · omega
  have := this L
  omega

/-- What it knows. -/
structure Acc where
  pa : Int
  pn : Int
  base : Int
  L : List VoteD
def Acc.may (A : Acc) (a n : Int) : Bool := validB a n && decide (0 ≤ cmpB a n A.pa A.pn)
def Acc.promise (A : Acc) (a n s : Int) : Acc × List VoteD × Bool := if A.may a n = false ∨ s < A.base then (A, [], false) else ({ A with pa := a, pn := n }, fromV A.L s, true)
def Acc.accept (A : Acc) (v : VoteD) : Acc × Bool :=
  if A.may v.a v.n = false ∨ v.slot < A.base ∨ 1024 ≤ v.slot ∨ (4096 : Int) < v.val.data.toList.length then (A, false) else ({ A with pa := v.a, pn := v.n, L := putV A.L v }, true)
def minI (a b : Int) : Int := if b < a then b else a
def maxI (a b : Int) : Int := if b > a then b else a
def Acc.trim (A : Acc) (u : Int) : Acc × Int := ({ A with base := maxI A.base (minI u 1024), L := fromV A.L (minI u 1024) }, (posV (minI u 1024) A.L : Nat))

theorem rowV_four (L : List VoteD) : ∀ r ∈ L.map rowV, r.length = 4 := by
  intro r hr
  obtain ⟨v, _, rfl⟩ := List.mem_map.1 hr
  rfl
theorem rowV_one (L : List VoteD) : (L.map rowV).flatten.all one1 = true := by
  rw [List.all_eq_true]
  intro x hx
  obtain ⟨r, hr, hx⟩ := List.mem_flatten.1 hx
  obtain ⟨v, _, rfl⟩ := List.mem_map.1 hr
  simp only [rowV, List.mem_cons, List.not_mem_nil, or_false] at hx
  rcases hx with rfl | rfl | rfl | rfl <;> rfl

structure IsA (H : IHeap) (p q : Nat) (A : Acc) : Prop where
  lt : p < H.next
  ne : p ≠ q
  rep : ∃ u, H.get p = some (.cells [.int .i64 A.pa, .int .i64 A.pn, .int .i64 A.base, u] false) ∧ VS H q u (A.L.map rowV)
  sorted : Sorted A.L
theorem IsA.upd {H H' : IHeap} {S : List Nat} {p q : Nat} {A : Acc} (h : IsA H p q A) (hu : IHeap.upd S H H') (hp : p ∉ S) (hq : q ∉ S) : IsA H' p q A := by
  obtain ⟨u, g1, g2⟩ := h.rep
  exact ⟨Nat.lt_of_lt_of_le h.lt hu.next, h.ne, ⟨u, (hu.get p h.lt hp).trans g1, g2.upd hu hq⟩, h.sorted⟩
theorem IsA.le {H H' : IHeap} {p q : Nat} {A : Acc} (h : IsA H p q A) (hu : H.le H') : IsA H' p q A := h.upd (hu.upd []) (by simp) (by simp)

section
variable (c : Ctx) (hc : HasAcc c) {H : IHeap} {K : Value → IHeap → Prop}
include hc

theorem findF_ok {v : VoteD} {s : Int} (hK : ∀ H', H.le H' → K (.int .i64 (if v.slot < s then -1 else if s < v.slot then 1 else 0)) H') : c.C (c.F n_acceptor_Acceptor_find_F1) [vV v, .int .i64 s] H K := by
  refine c.enter hc.acceptor_Acceptor_find_F1 rfl ?_
  have kA : ∀ y, H.le (H.alloc y) := fun y => H.le_alloc y
  by_cases h1 : v.slot < s
  · rw [if_pos h1] at hK
    simp -implicitDefEqProofs [c_acceptor_Acceptor_find_F1, vV, h1]
    exact hK _ (kA _)
  · rw [if_neg h1] at hK
    by_cases h2 : s < v.slot
    · rw [if_pos h2] at hK
      simp -implicitDefEqProofs [c_acceptor_Acceptor_find_F1, vV, h1, h2]
      exact hK _ (kA _)
    · rw [if_neg h2] at hK
      simp -implicitDefEqProofs [c_acceptor_Acceptor_find_F1, vV, h1, h2]
      exact hK _ (kA _)

theorem search_ok {u : Value} {L : List VoteD} {s : Int} (hu : SlR H 4 u (L.map rowV)) (hs : Sorted L) (hl : L.length ≤ 1000000) (hK : ∀ H', H.le H' → K (.tuple #[.int .i64 (posV s L : Nat), .bool (thereV L s)]) H') :
    c.C (c.F n_slices_BinarySearchFunc_api_Vote_api_Vote_int) [u, .int .i64 s, .func (.func (c.F n_acceptor_Acceptor_find_F1)) #[] #[]] H K := by
  refine c.enter hc.slices_BinarySearchFunc_api_Vote_api_Vote_int rfl ?_
  have hu' := hu
  obtain ⟨a, cap, rfl, _⟩ := hu
  simp only [List.length_map] at hu' ⊢
  have hple := posV_le s L
  have kk : ∀ {P : Prop}, (0 : Int) ≤ 1 := by omega
  simp -implicitDefEqProofs [c_slices_BinarySearchFunc_api_Vote_api_Vote_int]
  refine loop_nat c.mono (fun k T H' => ∃ lo hi : Nat, lo ≤ hi ∧ lo ≤ posV s L ∧ posV s L ≤ hi ∧ hi ≤ L.length ∧ k = hi - lo ∧ T 0 = .slice a L.length cap ∧ T 1 = .int .i64 s ∧ T 2 = .func (.func (c.F n_acceptor_Acceptor_find_F1)) #[] #[] ∧ T 8 = .int .i64 L.length ∧ T 9 = .int .i64 lo ∧ T 10 = .int .i64 hi ∧ H.le H') L.length ?_ ?_
  · refine ⟨0, L.length, by omega, by omega, by omega, by omega, by omega, ?_⟩
    simp -implicitDefEqProofs []
    exact IHeap.le_refl _
  · rintro k T H' ⟨lo, hi, h1, h2, h3, h4, rfl, t0, t1, t2, t8, t9, t10, hle⟩
    by_cases hlh : lo < hi
    · have hlhI : (lo : Int) < (hi : Int) := by omega
      obtain ⟨mid, hmid⟩ : ∃ mid, mid = (lo + hi) / 2 := ⟨_, rfl⟩
      have hm1 : lo ≤ mid := by omega
      have hm2 : mid < hi := by omega
      have hmL : mid < L.length := by omega
      have hmI : (mid : Int) < (L.length : Int) := by omega
      have w1 : IntKind.i64.wrap ((lo : Int) + (hi : Int)) = ((lo + hi : Nat) : Int) := by rw [wrap64 (by omega) (by omega)]; omega
      have w2 : IntKind.u64.wrap ((lo + hi : Nat) : Int) = ((lo + hi : Nat) : Int) := wrapU17 (by omega) (by omega)
      have w3 : shrW .u64 ((lo + hi : Nat) : Int) 1 = (mid : Int) := by rw [shrU17, hmid]
      have w4 : IntKind.i64.wrap (mid : Int) = (mid : Int) := wrap64 (by omega) (by omega)
      have w5 : IntKind.i64.wrap ((mid : Int) + 1) = (mid : Int) + 1 := wrap64 (by omega) (by omega)
      obtain ⟨sm, hsm⟩ : ∃ sm, sm = ((lo + hi : Nat) : Int) := ⟨_, rfl⟩
      rw [← hsm] at w1 w2 w3
      have hx : L[mid]? = some L[mid] := List.getElem?_eq_getElem hmL
      obtain ⟨v, hv⟩ : ∃ v, v = L[mid] := ⟨_, rfl⟩
      rw [← hv] at hx
      obtain ⟨b, o, cp, cs, ro, ea, hb, hget, hrl, hrow, hbd⟩ := hu'.at (i := mid) (r := rowV v) (by simp [hx])
      rw [List.length_map] at ea
      simp only [Value.slice.injEq] at ea
      obtain ⟨rfl, -, rfl⟩ := ea
      simp only [rowV] at hrow
      have hget' := (hle.get b hb).trans hget
      simp -implicitDefEqProofs [t0, t1, t2, t8, t9, t10, hlh, hlhI, w1, w2, w3, w4, hmL, hmI, hget', hrow, hbd]
      refine call_of (findF_ok c hc (v := v) fun H2 k2 => ?_)
      by_cases hc1 : v.slot < s
      · rw [if_pos hc1]
        have hgt : mid < posV s L := by
          refine Classical.byContradiction fun hn => ?_
          have := posV_ge (s := s) hs (i := mid) (by omega) hx
          omega
        simp -implicitDefEqProofs [t0, t1, t2, t8, t9, t10, w5]
        exact ⟨hi - (mid + 1), by omega, mid + 1, hi, by omega, by omega, by omega, by omega, rfl, rfl, by simp, hle.trans k2⟩
      · rw [if_neg hc1]
        have hge : posV s L ≤ mid := by
          refine Classical.byContradiction fun hn => ?_
          have := posV_lt (s := s) (L := L) (i := mid) (by omega) hx
          omega
        by_cases hc2 : s < v.slot
        · rw [if_pos hc2]
          simp -implicitDefEqProofs [t0, t1, t2, t8, t9, t10]
          exact ⟨mid - lo, by omega, lo, mid, by omega, by omega, by omega, by omega, rfl, rfl, by simp, hle.trans k2⟩
        · rw [if_neg hc2]
          simp -implicitDefEqProofs [t0, t1, t2, t8, t9, t10]
          exact ⟨mid - lo, by omega, lo, mid, by omega, by omega, by omega, by omega, rfl, rfl, by simp, hle.trans k2⟩
    · have hlhI : ¬ (lo : Int) < (hi : Int) := by omega
      have hlp : lo = posV s L := by omega
      subst hlp
      by_cases hpl : posV s L < L.length
      · have hpI : (posV s L : Int) < (L.length : Int) := by omega
        have hx : L[posV s L]? = some L[posV s L] := List.getElem?_eq_getElem hpl
        obtain ⟨v, hv⟩ : ∃ v, v = L[posV s L] := ⟨_, rfl⟩
        rw [← hv] at hx
        have hth : thereV L s = decide (v.slot = s) := by simp [thereV, hx]
        rw [hth] at hK
        obtain ⟨b, o, cp, cs, ro, ea, hb, hget, hrl, hrow, hbd⟩ := hu'.at (i := posV s L) (r := rowV v) (by simp [hx])
        rw [List.length_map] at ea
        simp only [Value.slice.injEq] at ea
        obtain ⟨rfl, -, rfl⟩ := ea
        simp only [rowV] at hrow
        have hget' := (hle.get b hb).trans hget
        simp -implicitDefEqProofs [t0, t1, t2, t8, t9, t10, hlh, hlhI, hpl, hpI, hget', hrow, hbd]
        refine call_of (findF_ok c hc (v := v) fun H2 k2 => ?_)
        have hge := posV_ge (s := s) hs (Nat.le_refl _) hx
        rw [if_neg (by omega)]
        by_cases hc2 : s < v.slot
        · rw [if_pos hc2]
          have hne : ¬ v.slot = s := by omega
          rw [decide_eq_false hne] at hK
          simp -implicitDefEqProofs []
          exact hK _ (hle.trans k2)
        · rw [if_neg hc2]
          have hne : v.slot = s := by omega
          rw [decide_eq_true hne] at hK
          simp -implicitDefEqProofs []
          exact hK _ (hle.trans k2)
      · have hpI : ¬ (posV s L : Int) < (L.length : Int) := by omega
        have hth : thereV L s = false := by simp [thereV, List.getElem?_eq_none (Nat.le_of_not_lt hpl)]
        rw [hth] at hK
        simp -implicitDefEqProofs [t0, t1, t2, t8, t9, t10, hlh, hlhI, hpl, hpI]
        exact hK _ hle

theorem find_ok {p q : Nat} {A : Acc} {s : Int} (h : IsA H p q A) (hl : A.L.length ≤ 1000000) (hK : ∀ H', H.le H' → K (.tuple #[.int .i64 (posV s A.L : Nat), .bool (thereV A.L s)]) H') : c.C (c.F n_acceptor_Acceptor_find) [.pointer (some ⟨p, 0, none⟩), .int .i64 s] H K := by
  refine c.enter hc.acceptor_Acceptor_find rfl ?_
  obtain ⟨u, g1, g2⟩ := h.rep
  simp -implicitDefEqProofs [c_acceptor_Acceptor_find, g1]
  refine call_of (search_ok c hc (g2.slw (rowV_four _)).1 h.sorted hl fun H' hl => ?_)
  simp -implicitDefEqProofs []
  exact hK _ hl

end
end Go.Proofs.YtpbbjfighohokaaI
namespace Go.Proofs.YtpbbjfighohokaaI
attribute [local simp] J0 J1 J2 J3 J4 J5 J6 J7 J8 J9 Ja Jb Jc Jd Je Jf Jg Jh Ji Jj Jk Jl Jm Jn Jo Jp Jq Jr Js Jt Ju Jv Jw Jx Jy Jz JA JB JC JD JE JF JG JH JI JJ JK JL JM JN JO JP JQ JR JS stillI IOp.kind JT JU JV JW JX JY JZ Y0 Y1 Y2 Y3 Y4 Y5 Y6 Y7 Y8 Y9 Ya Yb Yc Yd Ye Yf Yg Yh Yi Yj Yk Yl Ym Yn Yo Yp Yq ial Yr Ys Yt Yu Yv Yw Yx Yy ires iresL ires1 Yz YA YB YC YD YE bin2 YF YG YH YI YJ YK YL YM YN YO YP YQ YR YS YT YU un1 shOk eqL eq1 fillL putAt IHeap.load1 IHeap.loadL IHeap.storeL YV YW YX YY YZ B0 B1 B2 B3 B4 B5 B6 B7 B8 B9 Ba Bb Bc Bd Be Bf Bg Bh Bi Bj Bk Bl Bm Bn Bo Bp
set_option linter.unusedSimpArgs false
set_option linter.unusedVariables false
open Go

def Fresh (n : Nat) (v : Value) : Prop := ∀ b o m c, v = .slice (some ⟨b, o, none⟩) m c → n ≤ b
theorem Fresh.nil (n : Nat) : Fresh n (.slice none 0 0) := fun b o m c e => by simp at e
theorem Fresh.weak {n m : Nat} {v : Value} (h : Fresh m v) (hn : n ≤ m) : Fresh n v := fun b o x c e => Nat.le_trans hn (h b o x c e)

section
variable (c : Ctx) (hc : HasAcc c) (hB : HasBalA c) {H : IHeap} {K : Value → IHeap → Prop}

include hc in
theorem Clone4_ok {rows : List (List Value)} {u : Value} (hs : SlW H 4 u rows) (h4 : ∀ r ∈ rows, r.length = 4) (hone : rows.flatten.all one1 = true) (hl : rows.length ≤ 1000000)
    (hK : ∀ v' H', H.le H' → SlW H' 4 v' rows → Fresh H.next v' → K v' H') : c.C (c.F n_slices_Clone_api_Vote_api_Vote) [u] H K := by
  refine c.enter hc.slices_Clone_api_Vote_api_Vote rfl ?_
  have hs2 := hs
  obtain ⟨a, cap, rfl⟩ := hs.len
  have hf := hs2.first (by omega)
  cases a with
  | none =>
    have hl0 : rows = [] := by
      obtain ⟨⟨a', cap', e, h2⟩, _⟩ := hs2
      refine Classical.byContradiction fun hne => ?_
      obtain ⟨b, o, cs, ro, e2, _⟩ := h2 hne
      rw [e2] at e; simp at e
    subst hl0
    simp -implicitDefEqProofs [c_slices_Clone_api_Vote_api_Vote, nilOf]
    exact hK _ _ (IHeap.le_refl _) (SlW.nil H 4) (Fresh.nil _)
  | some ad =>
    have hb : ad.spot = none := by
      obtain ⟨_, a'', cap'', e, ha, _⟩ := hs2
      simp only [Value.slice.injEq] at e
      obtain ⟨rfl, -, rfl⟩ := e
      rcases ha with h | ⟨b, o, h⟩
      · simp at h
      · simp only [Option.some.injEq] at h; rw [h]
    obtain ⟨b, o, sp⟩ := ad
    simp only at hb
    subst hb
    have kA := H.le_alloc (.cells [] false)
    have hf2 : firstI (H.alloc (.cells [] false)) 4 rows.length (.slice (some ⟨b, o, none⟩) rows.length cap) = some rows.flatten := (hs2.le kA).first (by omega)
    have tg : Tight (H.alloc (.cells [] false)) 4 (.slice (some ⟨H.next, 0, none⟩) 0 0) [] := ⟨by simp, H.next, 0, [], false, by simp [YX], by unfold UNK; simp, rfl, by rw [YV, if_pos rfl], by simp, by simp⟩
    have fr : Fresh H.next (.slice (some ⟨H.next, 0, none⟩) 0 0) := fun b o m c e => by
      simp only [Value.slice.injEq, Option.some.injEq, Addr.mk.injEq] at e
      omega
    by_cases hl0 : rows = []
    · subst hl0
      have e0 := appendI_zero (bytes := 40) (B := H.next) (.inr (.inl tg)) (by omega) (by omega) (by simp) (by simp)
      simp only [List.length_nil, List.flatten_nil] at hf2 e0
      simp -implicitDefEqProofs [c_slices_Clone_api_Vote_api_Vote, nilOf, lenOfI, hf2, e0]
      exact hK _ _ kA tg.slw fr
    · obtain ⟨v', H', e1, e2, e3⟩ := Buf.append (bytes := 40) (B := H.next) (new := rows) (.inr (.inl tg)) (by simp [YX]) (by omega) (by omega) (by simp; omega) (by simp; omega) h4 hone hl0
      rw [List.nil_append] at e2
      have k3 : H.le H' := (kA.keep (Nat.le_refl _) |>.trans e3).le (Nat.le_refl _)
      obtain ⟨cs, hcs⟩ : ∃ cs, cs = rows.flatten := ⟨_, rfl⟩
      rw [← hcs] at hf2 e1
      simp -implicitDefEqProofs [c_slices_Clone_api_Vote_api_Vote, nilOf, lenOfI, hf2, e1]
      refine hK _ _ k3 e2.slw fun b o m c e => ?_
      obtain ⟨_, blk, q1, q2, rfl, q4⟩ := e2
      simp only [Value.slice.injEq, Option.some.injEq, Addr.mk.injEq] at e
      omega

include hc in
theorem ANew_ok (hK : ∀ H', H.le H' → IsA H' H.next (H.next + 1) ⟨0, 0, 0, []⟩ → K (.pointer (some ⟨H.next, 0, none⟩)) H') : c.C (c.F n_acceptor_New) [] H K := by
  refine c.enter hc.acceptor_New rfl ?_
  simp -implicitDefEqProofs [c_acceptor_New]
  exact hK _ (H.le_alloc _) ⟨by simp [YX], by omega, ⟨_, by rw [YV, if_pos rfl], .inl ⟨rfl, rfl⟩⟩, List.Pairwise.nil⟩

include hc in
theorem APromised_ok {p q : Nat} {A : Acc} (h : IsA H p q A) (hK : ∀ H', H.le H' → K (vB A.pa A.pn) H') : c.C (c.F n_acceptor_Acceptor_Promised) [.pointer (some ⟨p, 0, none⟩)] H K := by
  refine c.enter hc.acceptor_Acceptor_Promised rfl ?_
  obtain ⟨u, g1, g2⟩ := h.rep
  have hne : ¬ p = H.next := by have := h.lt; omega
  have k := (H.le_alloc (.cells [.int .i64 0, .int .i64 0] false)).set (i := H.next) (Nat.le_refl _) (.cells [.int .i64 A.pa, .int .i64 A.pn] false)
  simp -implicitDefEqProofs [c_acceptor_Acceptor_Promised, nilOf, g1, hne]
  exact hK _ k

include hc in
theorem ABase_ok {p q : Nat} {A : Acc} (h : IsA H p q A) (hK : K (.int .i64 A.base) H) : c.C (c.F n_acceptor_Acceptor_Base) [.pointer (some ⟨p, 0, none⟩)] H K := by
  refine c.enter hc.acceptor_Acceptor_Base rfl ?_
  obtain ⟨u, g1, g2⟩ := h.rep
  simp -implicitDefEqProofs [c_acceptor_Acceptor_Base, nilOf, g1]
  exact hK

include hc in
theorem AVotes_ok {p q : Nat} {A : Acc} {s : Int} (h : IsA H p q A) (hl : A.L.length ≤ 1000000) (hK : ∀ v' H', H.le H' → SlW H' 4 v' ((fromV A.L s).map rowV) → Fresh H.next v' → K v' H') :
    c.C (c.F n_acceptor_Acceptor_Votes) [.pointer (some ⟨p, 0, none⟩), .int .i64 s] H K := by
  refine c.enter hc.acceptor_Acceptor_Votes rfl ?_
  simp -implicitDefEqProofs [c_acceptor_Acceptor_Votes, nilOf]
  refine call_of (find_ok c hc (s := s) h hl fun H1 k1 => ?_)
  have h1 := h.le k1
  obtain ⟨u, g1, g2⟩ := h1.rep
  have hw := g2.slw (rowV_four _)
  obtain ⟨a, cap, rfl⟩ := g2.lenv
  rw [List.length_map] at hw g1
  have hple := posV_le s A.L
  obtain ⟨v', hcut, hw2⟩ := hw.cut (i := posV s A.L) (j := A.L.length) (by omega) hple (by simp)
  have hrows : ((A.L.map rowV).drop (posV s A.L)).take (A.L.length - posV s A.L) = (fromV A.L s).map rowV := by
    rw [fromV_drop h.sorted, List.map_drop, List.take_of_length_le (by simp)]
  rw [hrows] at hw2
  simp -implicitDefEqProofs [g1, boundsI, natI, hple, hcut]
  have hll : (fromV A.L s).length ≤ A.L.length := List.length_filter_le _ _
  refine call_of (Clone4_ok c hc hw2 (rowV_four _) (rowV_one _) (by rw [List.length_map]; omega) fun v2 H2 k2 s2 f2 => ?_)
  simp -implicitDefEqProofs []
  exact hK _ _ (k1.trans k2) s2 (f2.weak k1.next)

include hc hB in
theorem Amay_ok {p q : Nat} {A : Acc} {a n : Int} (h : IsA H p q A) (hK : ∀ H', H.le H' → K (.bool (A.may a n)) H') : c.C (c.F n_acceptor_Acceptor_may) [.pointer (some ⟨p, 0, none⟩), vB a n] H K := by
  refine c.enter hc.acceptor_Acceptor_may rfl ?_
  have kA := H.le_alloc (.cells [.int .i64 a, .int .i64 n] false)
  have hne : ¬ p = H.next := by have := h.lt; omega
  obtain ⟨u, g1, g2⟩ := h.rep
  unfold Acc.may at hK
  simp -implicitDefEqProofs [c_acceptor_Acceptor_may, vB, nilOf]
  refine dcall_of c.mono (Valid_ok c hB (a := a) (n := n) fun H1 k1 => ?_)
  have gx := (k1.get H.next (by simp [YX])).trans (by rw [YV, if_pos rfl])
  have gp := ((kA.trans k1).get p h.lt).trans g1
  cases hv : validB a n with
  | false =>
    rw [hv] at hK
    simp -implicitDefEqProofs []
    exact hK _ (kA.trans k1)
  | true =>
    rw [hv] at hK
    simp -implicitDefEqProofs [gx, gp]
    refine dcall_of c.mono (Cmp_ok c hB (a := a) (n := n) (b := A.pa) (m := A.pn) fun H2 k2 => ?_)
    simp -implicitDefEqProofs []
    exact hK _ ((kA.trans k1).trans k2)

include hc hB in
theorem APromise_ok {p q : Nat} {A : Acc} {a n s : Int} (h : IsA H p q A) (hl : A.L.length ≤ 1000000)
    (hK : ∀ v' H', IHeap.upd [p] H H' → (∀ q, IsA H p q A → IsA H' p q (A.promise a n s).1) → SlW H' 4 v' ((A.promise a n s).2.1.map rowV) → Fresh H.next v' → K (.tuple #[v', .bool (A.promise a n s).2.2]) H') :
    c.C (c.F n_acceptor_Acceptor_Promise) [.pointer (some ⟨p, 0, none⟩), vB a n, .int .i64 s] H K := by
  refine c.enter hc.acceptor_Acceptor_Promise rfl ?_
  have kA := H.le_alloc (.cells [.int .i64 a, .int .i64 n] false)
  have hpl := h.lt
  unfold Acc.promise at hK
  simp -implicitDefEqProofs [c_acceptor_Acceptor_Promise, vB]
  refine call_of (Amay_ok c hc hB (a := a) (n := n) (h.le kA) fun H1 k1 => ?_)
  have k01 := kA.trans k1
  have h1 := h.le k01
  have n1 := k1.next
  simp only [YX] at n1
  have gx := (k1.get H.next (by simp [YX])).trans (by rw [YV, if_pos rfl])
  obtain ⟨u, g1, g2⟩ := h1.rep
  cases hm : A.may a n with
  | false =>
    rw [if_pos (.inl hm)] at hK
    simp -implicitDefEqProofs []
    exact hK _ _ (k01.upd _) (fun q h => h.le k01) (SlW.nil _ 4) (Fresh.nil _)
  | true =>
    by_cases hs : s < A.base
    · rw [if_pos (.inr hs)] at hK
      simp -implicitDefEqProofs [nilOf, g1, hs]
      exact hK _ _ (k01.upd _) (fun q h => h.le k01) (SlW.nil _ 4) (Fresh.nil _)
    · rw [if_neg (by rw [hm]; simp [hs])] at hK
      simp -implicitDefEqProofs [nilOf, g1, hs, gx]
      obtain ⟨H2, hH2⟩ : ∃ X : IHeap, X = H1.set p (.cells [.int .i64 a, .int .i64 n, .int .i64 A.base, u] false) := ⟨_, rfl⟩
      rw [← hH2]
      have u2 : IHeap.upd [p] H1 H2 := by rw [hH2]; exact (IHeap.upd_refl _ _).set (.inr (by simp)) _
      have n2 : H2.next = H1.next := by rw [hH2]; rfl
      have h2 : IsA H2 p q { A with pa := a, pn := n } := ⟨by rw [n2]; exact h1.lt, h.ne, ⟨u, by rw [hH2, YW, if_pos rfl], g2.upd u2 (by simpa using Ne.symm h.ne)⟩, h.sorted⟩
      refine call_of (AVotes_ok c hc (s := s) h2 hl fun v3 H3 k3 s3 f3 => ?_)
      simp -implicitDefEqProofs []
      refine hK _ _ ((k01.updTrans u2).trans (k3.upd _)) (fun q h => ?_) s3 (f3.weak (by omega))
      have h1 := h.le k01
      obtain ⟨u', g1', g2'⟩ := h1.rep
      rw [g1] at g1'
      obtain rfl : u = u' := by simpa using g1'
      exact IsA.le ⟨by rw [n2]; exact h1.lt, h.ne, ⟨u, by rw [hH2, YW, if_pos rfl], g2'.upd u2 (by simpa using Ne.symm h.ne)⟩, h.sorted⟩ k3

end
end Go.Proofs.YtpbbjfighohokaaI
namespace Go.Proofs.YtpbbjfighohokaaI
attribute [local simp] J0 J1 J2 J3 J4 J5 J6 J7 J8 J9 Ja Jb Jc Jd Je Jf Jg Jh Ji Jj Jk Jl Jm Jn Jo Jp Jq Jr Js Jt Ju Jv Jw Jx Jy Jz JA JB JC JD JE JF JG JH JI JJ JK JL JM JN JO JP JQ JR JS stillI IOp.kind JT JU JV JW JX JY JZ Y0 Y1 Y2 Y3 Y4 Y5 Y6 Y7 Y8 Y9 Ya Yb Yc Yd Ye Yf Yg Yh Yi Yj Yk Yl Ym Yn Yo Yp Yq ial Yr Ys Yt Yu Yv Yw Yx Yy ires iresL ires1 Yz YA YB YC YD YE bin2 YF YG YH YI YJ YK YL YM YN YO YP YQ YR YS YT YU un1 shOk eqL eq1 fillL putAt IHeap.load1 IHeap.loadL IHeap.storeL YV YW YX YY YZ B0 B1 B2 B3 B4 B5 B6 B7 B8 B9 Ba Bb Bc Bd Be Bf Bg Bh Bi Bj Bk Bl Bm Bn Bo Bp
set_option linter.unusedSimpArgs false
set_option linter.unusedVariables false
open Go

/-- What slices.Insert does. -/
def InsOk (c : Ctx) : Prop := ∀ (H : IHeap) (K : Value → IHeap → Prop) (q vb i : Nat) (u : Value) (rows : List (List Value)) (new : List Value), VS H q u rows → (∀ r ∈ rows, r.length = 4) → rows.flatten.all one1 = true →
  H.get vb = some (.cells new false) → vb < H.next → vb ≠ q → new.length = 4 → new.all one1 = true → i ≤ rows.length → rows.length ≤ 1000000 →
  (∀ q' H', IHeap.upd [q] H H' → H.next ≤ q' → VS H' q' (.slice (some ⟨q', 0, none⟩) (rows.length + 1) (UNK + 4)) (rows.take i ++ new :: rows.drop i) → K (.slice (some ⟨q', 0, none⟩) (rows.length + 1) (UNK + 4)) H') →
  c.C (c.F n_slices_Insert_api_Vote_api_Vote) [u, .int .i64 i, .slice (some ⟨vb, 0, none⟩) 1 1] H K

theorem cells_take {cs : List Value} {rows : List (List Value)} (h4 : ∀ r ∈ rows, r.length = 4) (h : cs.take (rows.length * 4) = rows.flatten) {i : Nat} (hi : i ≤ rows.length) : cs.take (i * 4) = (rows.take i).flatten := by
  have := congrArg (List.take (i * 4)) h
  have hsp := flat_split rows i
  have hpre : ((rows.take i).flatten).length = i * 4 := by rw [flat_len _ 4 fun r hr => h4 r (List.mem_of_mem_take hr), List.length_take]; omega
  rw [List.take_take, Nat.min_eq_left (by omega), hsp, ← hpre, List.take_left, hpre] at this
  exact this
theorem cells_drop {cs : List Value} {rows : List (List Value)} (h4 : ∀ r ∈ rows, r.length = 4) (h : cs.take (rows.length * 4) = rows.flatten) {i : Nat} (hi : i ≤ rows.length) : (cs.drop (i * 4)).take ((rows.length - i) * 4) = (rows.drop i).flatten := by
  have := congrArg (List.drop (i * 4)) h
  have hsp := flat_split rows i
  have hpre : ((rows.take i).flatten).length = i * 4 := by rw [flat_len _ 4 fun r hr => h4 r (List.mem_of_mem_take hr), List.length_take]; omega
  rw [List.drop_take, hsp, ← hpre, List.drop_left, hpre] at this
  rw [← this]
  congr 1; omega
theorem cells_set {cs r : List Value} {rows : List (List Value)} (h4 : ∀ r ∈ rows, r.length = 4) (h : cs.take (rows.length * 4) = rows.flatten) (hl : rows.length * 4 ≤ cs.length) {i : Nat} (hi : i < rows.length) (hr : r.length = 4) :
    (putAt cs (i * 4) r).take (rows.length * 4) = (rows.set i r).flatten := by
  rw [List.set_eq_take_append_cons_drop, if_pos hi, List.flatten_append, List.flatten_cons]
  have e1 := cells_take h4 h (i := i) (by omega)
  have e2 := cells_drop h4 h (i := i + 1) (by omega)
  unfold putAt
  have l1 : (cs.take (i * 4)).length = i * 4 := by rw [List.length_take]; omega
  rw [← e1, ← e2, List.append_assoc, List.take_append, l1, List.take_take, Nat.min_eq_right (by omega), List.take_append, hr]
  congr 1
  rw [List.take_of_length_le (by omega)]
  congr 1
  rw [show i * 4 + 4 = (i + 1) * 4 by omega]
  congr 1
  omega

section
variable (c : Ctx) (hc : HasAcc c) (hB : HasBalA c) (hI : InsOk c) {H : IHeap} {K : Value → IHeap → Prop}

include hc hB hI in
theorem AAccept_ok {p q : Nat} {A : Acc} {v : VoteD} (h : IsA H p q A) (hl : A.L.length ≤ 1000000)
    (hK : ∀ q' H', IHeap.upd [p, q] H H' → (q' = q ∨ H.next ≤ q') → IsA H' p q' (A.accept v).1 → K (.bool (A.accept v).2) H') :
    c.C (c.F n_acceptor_Acceptor_Accept) [.pointer (some ⟨p, 0, none⟩), vV v] H K := by
  refine c.enter hc.acceptor_Acceptor_Accept rfl ?_
  have hpl := h.lt
  have kA := H.le_alloc (.cells [.int .i64 v.slot, .int .i64 v.a, .int .i64 v.n, .string v.val] false)
  unfold Acc.accept at hK
  simp -implicitDefEqProofs [c_acceptor_Acceptor_Accept, vV]
  refine dcall_of c.mono (Amay_ok c hc hB (a := v.a) (n := v.n) (h.le kA) fun H1 k1 => ?_)
  have k01 := kA.trans k1
  have h1 := h.le k01
  have n1 := k1.next
  simp only [YX] at n1
  have gx := (k1.get H.next (by simp [YX])).trans (by rw [YV, if_pos rfl])
  obtain ⟨u, g1, g2⟩ := h1.rep
  cases hm : A.may v.a v.n with
  | false =>
    rw [if_pos (.inl hm)] at hK
    simp -implicitDefEqProofs [gx]
    exact hK q _ (k01.upd _) (.inl rfl) h1
  | true =>
    by_cases c1 : v.slot < A.base
    · rw [if_pos (.inr (.inl c1))] at hK
      simp -implicitDefEqProofs [nilOf, gx, g1, c1]
      exact hK q _ (k01.upd _) (.inl rfl) h1
    · by_cases c2 : 1024 ≤ v.slot
      · rw [if_pos (.inr (.inr (.inl c2)))] at hK
        simp -implicitDefEqProofs [nilOf, gx, g1, c1, c2]
        exact hK q _ (k01.upd _) (.inl rfl) h1
      · by_cases c3 : (4096 : Int) < v.val.data.toList.length
        · rw [if_pos (.inr (.inr (.inr c3)))] at hK
          obtain ⟨ln, hln⟩ : ∃ ln : Int, ln = v.val.data.toList.length := ⟨_, rfl⟩
          have c3' : (4096 : Int) < (v.val.size : Int) := c3
          simp -implicitDefEqProofs [nilOf, gx, g1, c1, c2, c3']
          exact hK q _ (k01.upd _) (.inl rfl) h1
        · rw [if_neg (by rw [hm]; simp only [Bool.true_eq_false, false_or, not_or]; exact ⟨c1, c2, c3⟩)] at hK
          have c3' : ¬ (4096 : Int) < (v.val.size : Int) := c3
          simp -implicitDefEqProofs [nilOf, gx, g1, c1, c2, c3']
          obtain ⟨H2, hH2⟩ : ∃ X : IHeap, X = H1.set p (.cells [.int .i64 v.a, .int .i64 v.n, .int .i64 A.base, u] false) := ⟨_, rfl⟩
          have hpx : ¬ H.next = p := by omega
          have gx2 : H2.get H.next = some (.cells [.int .i64 v.slot, .int .i64 v.a, .int .i64 v.n, .string v.val] false) := by rw [hH2, YW, if_neg hpx]; exact gx
          have gp2 : H2.get p = some (.cells [.int .i64 v.a, .int .i64 v.n, .int .i64 A.base, u] false) := by rw [hH2, YW, if_pos rfl]
          have u2 : IHeap.upd [p] H1 H2 := by rw [hH2]; exact (IHeap.upd_refl _ _).set (.inr (by simp)) _
          have n2 : H2.next = H1.next := by rw [hH2]; rfl
          have g22 := g2.upd u2 (by simpa using Ne.symm h.ne)
          have h2 : IsA H2 p q { A with pa := v.a, pn := v.n } := ⟨by rw [n2]; exact h1.lt, h.ne, ⟨u, gp2, g22⟩, h.sorted⟩
          have up2 : IHeap.upd [p, q] H H2 := k01.updTrans ⟨u2.next, fun b hb hn => u2.get b hb fun hh => hn (by simp at hh; simp [hh])⟩
          simp -implicitDefEqProofs [← hH2, gx2, hpx]
          refine call_of (find_ok c hc (s := v.slot) h2 hl fun H3 k3 => ?_)
          have gx3 := (k3.get H.next (by omega)).trans gx2
          have gp3 := (k3.get p (by omega)).trans gp2
          have g23 := g22.le k3
          have n3 := k3.next
          have hple := posV_le v.slot A.L
          have up3 : IHeap.upd [p, q] H H3 := up2.trans (k3.upd _)
          simp only
          cases ht : thereV A.L v.slot with
          | true =>
            have hput := putV_in h.sorted ht
            have hpos : posV v.slot A.L < A.L.length := by
              unfold thereV at ht
              cases hq : A.L[posV v.slot A.L]? with
              | none => rw [hq] at ht; cases ht
              | some w => exact (List.getElem?_eq_some_iff.1 hq).1
            rcases g23 with ⟨hr0, rfl⟩ | ⟨cs, hq, rfl, gq, hcs, hcl⟩
            · exfalso
              have hL0 : A.L = [] := by simpa using hr0
              rw [hL0] at hpos; simp at hpos
            · rw [List.length_map] at hcs hcl gp3
              have hpI : (posV v.slot A.L : Int) < (A.L.length : Int) := by omega
              have k4 : posV v.slot A.L * 4 + 4 ≤ cs.length := by omega
              obtain ⟨cs2, hcs2⟩ : ∃ x, x = putAt cs (posV v.slot A.L * 4) (rowV v) := ⟨_, rfl⟩
              have fo : List.take (posV v.slot A.L * 4) cs ++ (Value.int .i64 v.slot :: Value.int .i64 v.a :: Value.int .i64 v.n :: Value.string v.val :: List.drop (posV v.slot A.L * 4 + 4) cs) = cs2 := by rw [hcs2]; simp [putAt, rowV]
              have hset := cells_set (rowV_four A.L) (by rw [List.length_map]; exact hcs) (by rw [List.length_map]; exact hcl) (i := posV v.slot A.L) (r := rowV v) (by rw [List.length_map]; exact hpos) rfl
              rw [← hcs2, List.length_map] at hset
              have l2 : cs2.length = cs.length := by rw [hcs2]; exact put_len (by simp [rowV]; omega)
              simp -implicitDefEqProofs [gp3, gx3, hpos, hpI, gq, k4, fo]
              refine hK q _ (up3.set (.inr (by simp)) _) (.inl rfl) ⟨by simp only [YY]; omega, h.ne, ⟨_, by rw [YW, if_neg h.ne]; exact gp3, .inr ⟨cs2, by simp only [YY]; exact hq, ?_, by rw [YW, if_pos rfl], ?_, ?_⟩⟩, putV_sorted h.sorted v⟩
              · simp [hput]
              · rw [List.length_map, hput, List.length_set, hset, List.map_set]
              · rw [List.length_map, hput, List.length_set]; omega
          | false =>
            have hput := putV_new h.sorted ht
            obtain ⟨H4, hH4⟩ : ∃ X : IHeap, X = H3.alloc (.cells [.int .i64 v.slot, .int .i64 v.a, .int .i64 v.n, .string v.val] false) := ⟨_, rfl⟩
            have k4 : H3.le H4 := by rw [hH4]; exact H3.le_alloc _
            have n4 : H4.next = H3.next + 1 := by rw [hH4]; rfl
            have g4 : H4.get H3.next = some (.cells [.int .i64 v.slot, .int .i64 v.a, .int .i64 v.n, .string v.val] false) := by rw [hH4, YV, if_pos rfl]
            have gp4 := (k4.get p (by omega)).trans gp3
            obtain ⟨q0, hq0, hq1, hq2, hv4⟩ : ∃ q0, q0 ≠ H3.next ∧ q0 ≠ p ∧ (q0 = q ∨ H4.next ≤ q0) ∧ VS H4 q0 u (A.L.map rowV) := by
              rcases g23 with ⟨hr0, rfl⟩ | ⟨cs, hq, rfl, gq, hcs, hcl⟩
              · exact ⟨H4.next, by omega, by omega, .inr (Nat.le_refl _), .inl ⟨hr0, rfl⟩⟩
              · exact ⟨q, by omega, Ne.symm h.ne, .inl rfl, (VS.le (.inr ⟨cs, hq, rfl, gq, hcs, hcl⟩) k4)⟩
            obtain ⟨au, cu, eu⟩ := hv4.lenv
            have hins := fun K2 hk => hI H4 K2 q0 H3.next (posV v.slot A.L) u _ (rowV v) hv4 (rowV_four _) (rowV_one _) g4 (by omega) (Ne.symm hq0) rfl rfl (by rw [List.length_map]; exact hple) (by rw [List.length_map]; exact hl) hk
            rw [List.length_map] at eu
            rw [eu] at hins gp3
            simp -implicitDefEqProofs [gp3, gx3, ← hH4]
            refine dcall_of c.mono (hins _ fun q' H5 u5 hq' vs5 => ?_)
            have gp5 := (u5.get p (by omega) (by simpa using Ne.symm hq1)).trans gp4
            rw [eu] at gp5
            rw [List.length_map] at vs5 ⊢
            have n5 := u5.next
            have hpq' : p ≠ q' := by omega
            have e1 : (A.L.map rowV).take (posV v.slot A.L) ++ rowV v :: (A.L.map rowV).drop (posV v.slot A.L) = (putV A.L v).map rowV := by rw [hput]; simp [List.map_take, List.map_drop]
            rw [e1] at vs5
            simp -implicitDefEqProofs [gp5, stillI]
            have up5 : IHeap.upd [p, q] H H5 := ⟨Nat.le_trans up3.next (Nat.le_trans k4.next n5), fun b hb hn => by
              have hb3 : b < H3.next := Nat.lt_of_lt_of_le hb up3.next
              rw [u5.get b (by omega) (fun hm => by
                simp only [List.mem_singleton] at hm
                rcases hq2 with e | e
                · exact hn (by simp [hm, e])
                · omega), k4.get b hb3]
              exact up3.get b hb hn⟩
            have up3n := up3.next
            refine hK q' _ (up5.set (.inr (by simp)) _) (.inr (by omega)) ⟨by simp only [YY]; omega, hpq', ⟨_, by rw [YW, if_pos rfl], vs5.upd ((IHeap.upd_refl [p] _).set (.inr (by simp)) _) (by simpa using Ne.symm hpq')⟩, putV_sorted h.sorted v⟩

end
end Go.Proofs.YtpbbjfighohokaaI
