/- PRINTED by gen.py (this session's own): the intermediate form of some functions, and a context's having them. / What is known besides: more than one thing. / What is known besides: a slice that is not a block's beginning, seen whole. / slices.Insert, of rows of three cells: what it does, its slice seen whole. -/
import Derived.Test.YtndndcdblfejnaaGreatRKeptM
import Derived.Test.YtndndcdblfejnaaGreatRIdealZ
namespace Go.Proofs.YtndndcdblfejnaaGreatRI
set_option linter.unusedSimpArgs false
set_option linter.unusedVariables false
open Go

/-- hurdle/replies.New -/
abbrev n_replies_New : Nat := 375
/-- hurdle/replies.may -/
abbrev n_replies_may : Nat := 376
/-- (*hurdle/replies.Replies).find -/
abbrev n_replies_Replies_find : Nat := 377
/-- (*hurdle/replies.Replies).find$1 -/
abbrev n_replies_Replies_find_F1 : Nat := 378
/-- (*hurdle/replies.Replies).Take -/
abbrev n_replies_Replies_Take : Nat := 379
/-- (*hurdle/replies.Replies).Put -/
abbrev n_replies_Replies_Put : Nat := 380
/-- slices.Insert[[]hurdle/replies.entry,hurdle/replies.entry] -/
abbrev n_slices_Insert_replies_entry_replies_entry : Nat := 381
/-- slices.BinarySearchFunc[[]hurdle/replies.entry,hurdle/replies.entry,int] -/
abbrev n_slices_BinarySearchFunc_replies_entry_replies_entry_int : Nat := 382
/-- hurdle/replies.New -/
def c_replies_New (F : Nat → FuncId) (Ty : Nat → TypeId) : IFunc := ⟨9, [.tmp 2],
 .seq (.ops [⟨some 2, .move (.const (.pointer none)), none⟩])
 (.seq (.ops [⟨some 3, .move (.tmp 0), none⟩,
 ⟨some 4, .mxn true (.tmp 3) (.const (.int .i64 1)), none⟩,
 ⟨some 5, .mxn false (.tmp 4) (.const (.int .i64 16)), none⟩,
 ⟨some 6, .mkMap, none⟩,
 ⟨some 7, .build [.int .i64 0, .map none] [((0, 1), .tmp 5), ((1, 1), .tmp 6)], none⟩,
 ⟨some 8, .box (.tmp 7), none⟩,
 ⟨some 2, .move (.tmp 8), none⟩])
 (.ret))⟩
/-- hurdle/replies.may -/
def c_replies_may (F : Nat → FuncId) (Ty : Nat → TypeId) : IFunc := ⟨19, [.tmp 4],
 .seq (.ops [⟨some 4, .move (.const (.bool false)), none⟩])
 (.seq (.ops [⟨some 5, .move (.tmp 0), none⟩,
 ⟨some 6, .bin .geq (.tmp 5) (.const (.int .i64 0)), none⟩,
 ⟨some 7, .move (.tmp 6), none⟩,
 ⟨some 8, .move (.tmp 0), some (7, true)⟩,
 ⟨some 9, .bin .lss (.tmp 8) (.const (.int .i64 64)), some (7, true)⟩,
 ⟨some 10, .pick (.tmp 7) (.tmp 9) (.const (.bool false)), none⟩,
 ⟨some 11, .move (.tmp 10), none⟩,
 ⟨some 12, .move (.tmp 1), some (11, true)⟩,
 ⟨some 13, .bin .geq (.tmp 12) (.const (.int .i64 0)), some (11, true)⟩,
 ⟨some 14, .pick (.tmp 11) (.tmp 13) (.const (.bool false)), none⟩,
 ⟨some 15, .move (.tmp 14), none⟩,
 ⟨some 16, .move (.tmp 1), some (15, true)⟩,
 ⟨some 17, .bin .lss (.tmp 16) (.const (.int .i64 2147483648)), some (15, true)⟩,
 ⟨some 18, .pick (.tmp 15) (.tmp 17) (.const (.bool false)), none⟩,
 ⟨some 4, .move (.tmp 18), none⟩])
 (.ret))⟩
/-- (*hurdle/replies.Replies).find -/
def c_replies_Replies_find (F : Nat → FuncId) (Ty : Nat → TypeId) : IFunc := ⟨18, [.tmp 6, .tmp 7],
 .seq (.ops [⟨some 6, .move (.const (.int .i64 0)), none⟩,
 ⟨some 7, .move (.const (.bool false)), none⟩])
 (.seq (.ops [⟨some 8, .move (.tmp 0), none⟩,
 ⟨some 9, .nilCheck (.tmp 8), none⟩,
 ⟨some 10, .fieldAddr 1 (.tmp 9), none⟩,
 ⟨some 11, .load1 (.tmp 10), none⟩,
 ⟨some 12, .move (.tmp 1), none⟩,
 ⟨some 13, .lookup (Ty 2) (.slice none 0 0) false (.tmp 11) (.tmp 12), none⟩,
 ⟨some 14, .move (.tmp 2), none⟩,
 ⟨some 15, .call (F 382) [.tmp 13, .tmp 14, .func (F 378)], none⟩,
 ⟨some 16, .extract (.tmp 15) 0, none⟩,
 ⟨some 17, .extract (.tmp 15) 1, none⟩,
 ⟨some 6, .move (.tmp 16), none⟩,
 ⟨some 7, .move (.tmp 17), none⟩])
 (.ret))⟩
/-- (*hurdle/replies.Replies).find$1 -/
def c_replies_Replies_find_F1 (F : Nat → FuncId) (Ty : Nat → TypeId) : IFunc := ⟨9, [.tmp 4],
 .seq (.ops [⟨some 2, .box (.tmp 0), none⟩,
 ⟨some 4, .move (.const (.int .i64 0)), none⟩])
 (.seq (.ops [⟨some 5, .fieldAddr 0 (.tmp 2), none⟩,
 ⟨some 6, .load1 (.tmp 5), none⟩,
 ⟨some 7, .move (.tmp 1), none⟩,
 ⟨some 8, .bin .sub (.tmp 6) (.tmp 7), none⟩,
 ⟨some 4, .move (.tmp 8), none⟩])
 (.ret))⟩
/-- (*hurdle/replies.Replies).Take -/
def c_replies_Replies_Take (F : Nat → FuncId) (Ty : Nat → TypeId) : IFunc := ⟨81, [.tmp 6, .tmp 7],
 .seq (.ops [⟨some 6, .move (.const (.int .i64 0)), none⟩,
 ⟨some 7, .move (.const (.string ⟨#[]⟩)), none⟩])
 (.seq (.seq (.ops [⟨some 11, .move (.tmp 0), none⟩,
 ⟨some 12, .eqNil 0 false (.tmp 11), none⟩,
 ⟨some 13, .move (.tmp 12), none⟩,
 ⟨some 14, .move (.tmp 1), some (13, false)⟩,
 ⟨some 15, .move (.tmp 2), some (13, false)⟩,
 ⟨some 16, .call (F 376) [.tmp 14, .tmp 15], some (13, false)⟩,
 ⟨some 17, .un .not (.tmp 16), some (13, false)⟩,
 ⟨some 18, .pick (.tmp 13) (.const (.bool true)) (.tmp 17), none⟩])
 (.cond (.tmp 18)
 (.seq (.ops [⟨some 6, .move (.const (.int .i64 0)), none⟩,
 ⟨some 7, .move (.const (.string ⟨#[]⟩)), none⟩])
 (.ret))
 (.skip)))
 (.seq (.ops [⟨some 20, .move (.tmp 0), none⟩,
 ⟨some 21, .move (.tmp 1), none⟩,
 ⟨some 22, .move (.tmp 2), none⟩,
 ⟨some 23, .call (F 377) [.tmp 20, .tmp 21, .tmp 22], none⟩,
 ⟨some 19, .move (.tmp 23), none⟩,
 ⟨some 24, .extract (.tmp 19) 0, none⟩,
 ⟨some 25, .extract (.tmp 19) 1, none⟩,
 ⟨some 8, .move (.tmp 24), none⟩,
 ⟨some 9, .move (.tmp 25), none⟩])
 (.seq (.ops [⟨some 26, .move (.tmp 0), none⟩,
 ⟨some 27, .nilCheck (.tmp 26), none⟩,
 ⟨some 28, .fieldAddr 1 (.tmp 27), none⟩,
 ⟨some 29, .load1 (.tmp 28), none⟩,
 ⟨some 30, .move (.tmp 1), none⟩,
 ⟨some 31, .lookup (Ty 2) (.slice none 0 0) false (.tmp 29) (.tmp 30), none⟩,
 ⟨some 10, .move (.tmp 31), none⟩])
 (.seq (.block 0 (.seq (.ops [⟨some 33, .move (.tmp 9), none⟩,
 ⟨some 34, .move (.tmp 33), none⟩,
 ⟨some 35, .move (.tmp 10), some (34, true)⟩,
 ⟨some 36, .move (.tmp 8), some (34, true)⟩,
 ⟨some 37, .idxSl 3 (.tmp 35) (.tmp 36), some (34, true)⟩,
 ⟨some 38, .fieldAddr 1 (.tmp 37), some (34, true)⟩,
 ⟨some 39, .load1 (.tmp 38), some (34, true)⟩,
 ⟨some 40, .pick (.tmp 34) (.tmp 39) (.const (.bool false)), none⟩,
 ⟨some 32, .move (.tmp 40), none⟩])
 (.cond (.tmp 32)
 (.seq (.ops [⟨some 6, .move (.const (.int .i64 3)), none⟩,
 ⟨some 7, .move (.const (.string ⟨#[]⟩)), none⟩])
 (.ret))
 (.seq (.ops [⟨some 42, .move (.tmp 9), none⟩,
 ⟨some 41, .move (.tmp 42), none⟩])
 (.cond (.tmp 41)
 (.seq (.draw [(⟨some 43, .move (.tmp 10), none⟩, []),
 (⟨some 44, .move (.tmp 8), none⟩, []),
 (⟨some 45, .idxSl 3 (.tmp 43) (.tmp 44), none⟩, []),
 (⟨some 46, .fieldAddr 2 (.tmp 45), none⟩, []),
 (⟨some 47, .load1 (.tmp 46), none⟩, []),
 (⟨some 6, .move (.const (.int .i64 2)), none⟩, []),
 (⟨some 7, .move (.tmp 47), none⟩, [])])
 (.ret))
 (.seq (.ops [⟨some 49, .move (.tmp 10), none⟩,
 ⟨some 50, .lenSl (.tmp 49), none⟩,
 ⟨some 51, .move (.tmp 0), none⟩,
 ⟨some 52, .nilCheck (.tmp 51), none⟩,
 ⟨some 53, .fieldAddr 0 (.tmp 52), none⟩,
 ⟨some 54, .load1 (.tmp 53), none⟩,
 ⟨some 55, .bin .eql (.tmp 50) (.tmp 54), none⟩,
 ⟨some 56, .move (.tmp 55), none⟩,
 ⟨some 57, .move (.tmp 8), some (56, true)⟩,
 ⟨some 58, .bin .eql (.tmp 57) (.const (.int .i64 0)), some (56, true)⟩,
 ⟨some 59, .pick (.tmp 56) (.tmp 58) (.const (.bool false)), none⟩,
 ⟨some 48, .move (.tmp 59), none⟩])
 (.cond (.tmp 48)
 (.seq (.ops [⟨some 6, .move (.const (.int .i64 4)), none⟩,
 ⟨some 7, .move (.const (.string ⟨#[]⟩)), none⟩])
 (.ret))
 (.skip))))))))
 (.seq (.ops [⟨some 60, .move (.tmp 10), none⟩,
 ⟨some 61, .move (.tmp 8), none⟩,
 ⟨some 62, .move (.tmp 2), none⟩,
 ⟨some 63, .build [.int .i64 0, .bool false, .string ⟨#[]⟩] [((0, 1), .tmp 62), ((1, 1), .const (.bool true))], none⟩,
 ⟨some 64, .buildSlice 1 [.int .i64 0, .bool false, .string ⟨#[]⟩] [((0, 3), .tmp 63)], none⟩,
 ⟨some 65, .call (F 381) [.tmp 60, .tmp 61, .tmp 64], none⟩,
 ⟨some 10, .move (.tmp 65), none⟩])
 (.seq (.draw [(⟨some 66, .move (.tmp 0), none⟩, []),
 (⟨some 67, .nilCheck (.tmp 66), none⟩, []),
 (⟨some 68, .fieldAddr 1 (.tmp 67), none⟩, []),
 (⟨some 69, .load1 (.tmp 68), none⟩, []),
 (⟨some 70, .move (.tmp 1), none⟩, []),
 (⟨some 71, .move (.tmp 10), none⟩, []),
 (⟨some 72, .move (.tmp 10), none⟩, []),
 (⟨some 73, .lenSl (.tmp 72), none⟩, []),
 (⟨some 74, .move (.tmp 0), none⟩, []),
 (⟨some 75, .nilCheck (.tmp 74), none⟩, []),
 (⟨some 76, .fieldAddr 0 (.tmp 75), none⟩, []),
 (⟨some 77, .load1 (.tmp 76), none⟩, []),
 (⟨some 78, .bin .sub (.tmp 73) (.tmp 77), none⟩, []),
 (⟨some 79, .mxn true (.tmp 78) (.const (.int .i64 0)), none⟩, []),
 (⟨some 80, .sliceSl 3 (.tmp 71) (some (.tmp 79)) none none, none⟩, []),
 (⟨none, .mapUpdate (Ty 2) (.tmp 69) (.tmp 70) (.tmp 80), none⟩, [])])
 (.seq (.ops [⟨some 6, .move (.const (.int .i64 1)), none⟩,
 ⟨some 7, .move (.const (.string ⟨#[]⟩)), none⟩])
 (.ret))))))))⟩
/-- (*hurdle/replies.Replies).Put -/
def c_replies_Replies_Put (F : Nat → FuncId) (Ty : Nat → TypeId) : IFunc := ⟨57, [.tmp 8],
 .seq (.ops [⟨some 8, .move (.const (.bool false)), none⟩])
 (.seq (.seq (.ops [⟨some 11, .move (.tmp 0), none⟩,
 ⟨some 12, .eqNil 0 false (.tmp 11), none⟩,
 ⟨some 13, .move (.tmp 12), none⟩,
 ⟨some 14, .move (.tmp 1), some (13, false)⟩,
 ⟨some 15, .move (.tmp 2), some (13, false)⟩,
 ⟨some 16, .call (F 376) [.tmp 14, .tmp 15], some (13, false)⟩,
 ⟨some 17, .un .not (.tmp 16), some (13, false)⟩,
 ⟨some 18, .pick (.tmp 13) (.const (.bool true)) (.tmp 17), none⟩,
 ⟨some 19, .move (.tmp 18), none⟩,
 ⟨some 20, .move (.tmp 3), some (19, false)⟩,
 ⟨some 21, .strLen (.tmp 20), some (19, false)⟩,
 ⟨some 22, .bin .gtr (.tmp 21) (.const (.int .i64 4096)), some (19, false)⟩,
 ⟨some 23, .pick (.tmp 19) (.const (.bool true)) (.tmp 22), none⟩])
 (.cond (.tmp 23)
 (.seq (.ops [⟨some 8, .move (.const (.bool false)), none⟩])
 (.ret))
 (.skip)))
 (.seq (.ops [⟨some 25, .move (.tmp 0), none⟩,
 ⟨some 26, .move (.tmp 1), none⟩,
 ⟨some 27, .move (.tmp 2), none⟩,
 ⟨some 28, .call (F 377) [.tmp 25, .tmp 26, .tmp 27], none⟩,
 ⟨some 24, .move (.tmp 28), none⟩,
 ⟨some 29, .extract (.tmp 24) 0, none⟩,
 ⟨some 30, .extract (.tmp 24) 1, none⟩,
 ⟨some 9, .move (.tmp 29), none⟩,
 ⟨some 10, .move (.tmp 30), none⟩])
 (.seq (.seq (.ops [⟨some 31, .move (.tmp 10), none⟩,
 ⟨some 32, .un .not (.tmp 31), none⟩,
 ⟨some 33, .move (.tmp 32), none⟩,
 ⟨some 34, .move (.tmp 0), some (33, false)⟩,
 ⟨some 35, .nilCheck (.tmp 34), some (33, false)⟩,
 ⟨some 36, .fieldAddr 1 (.tmp 35), some (33, false)⟩,
 ⟨some 37, .load1 (.tmp 36), some (33, false)⟩,
 ⟨some 38, .move (.tmp 1), some (33, false)⟩,
 ⟨some 39, .lookup (Ty 2) (.slice none 0 0) false (.tmp 37) (.tmp 38), some (33, false)⟩,
 ⟨some 40, .move (.tmp 9), some (33, false)⟩,
 ⟨some 41, .idxSl 3 (.tmp 39) (.tmp 40), some (33, false)⟩,
 ⟨some 42, .fieldAddr 1 (.tmp 41), some (33, false)⟩,
 ⟨some 43, .load1 (.tmp 42), some (33, false)⟩,
 ⟨some 44, .un .not (.tmp 43), some (33, false)⟩,
 ⟨some 45, .pick (.tmp 33) (.const (.bool true)) (.tmp 44), none⟩])
 (.cond (.tmp 45)
 (.seq (.ops [⟨some 8, .move (.const (.bool false)), none⟩])
 (.ret))
 (.skip)))
 (.seq (.ops [⟨some 46, .move (.tmp 0), none⟩,
 ⟨some 47, .nilCheck (.tmp 46), none⟩,
 ⟨some 48, .fieldAddr 1 (.tmp 47), none⟩,
 ⟨some 49, .load1 (.tmp 48), none⟩,
 ⟨some 50, .move (.tmp 1), none⟩,
 ⟨some 51, .lookup (Ty 2) (.slice none 0 0) false (.tmp 49) (.tmp 50), none⟩,
 ⟨some 52, .move (.tmp 9), none⟩,
 ⟨some 53, .move (.tmp 2), none⟩,
 ⟨some 54, .move (.tmp 3), none⟩,
 ⟨some 55, .build [.int .i64 0, .bool false, .string ⟨#[]⟩] [((0, 1), .tmp 53), ((2, 1), .tmp 54)], none⟩,
 ⟨some 56, .idxSl 3 (.tmp 51) (.tmp 52), none⟩,
 ⟨none, .store 3 (.tmp 56) (.tmp 55), none⟩])
 (.seq (.ops [⟨some 8, .move (.const (.bool true)), none⟩])
 (.ret))))))⟩
/-- slices.Insert[[]hurdle/replies.entry,hurdle/replies.entry] -/
def c_slices_Insert_replies_entry_replies_entry (F : Nat → FuncId) (Ty : Nat → TypeId) : IFunc := ⟨95, [.tmp 6],
 .seq (.ops [⟨some 6, .move (.const (.slice none 0 0)), none⟩])
 (.seq (.ops [⟨some 10, .move (.tmp 0), none⟩,
 ⟨some 11, .move (.tmp 1), none⟩,
 ⟨some 12, .sliceSl 3 (.tmp 10) (some (.tmp 11)) none none, none⟩])
 (.seq (.ops [⟨some 13, .move (.tmp 2), none⟩,
 ⟨some 14, .lenSl (.tmp 13), none⟩,
 ⟨some 7, .move (.tmp 14), none⟩])
 (.seq (.seq (.ops [⟨some 15, .move (.tmp 7), none⟩,
 ⟨some 16, .bin .eql (.tmp 15) (.const (.int .i64 0)), none⟩])
 (.cond (.tmp 16)
 (.seq (.ops [⟨some 17, .move (.tmp 0), none⟩,
 ⟨some 6, .move (.tmp 17), none⟩])
 (.ret))
 (.skip)))
 (.seq (.ops [⟨some 18, .move (.tmp 0), none⟩,
 ⟨some 19, .lenSl (.tmp 18), none⟩,
 ⟨some 8, .move (.tmp 19), none⟩])
 (.seq (.seq (.ops [⟨some 20, .move (.tmp 1), none⟩,
 ⟨some 21, .move (.tmp 8), none⟩,
 ⟨some 22, .bin .eql (.tmp 20) (.tmp 21), none⟩])
 (.cond (.tmp 22)
 (.seq (.ops [⟨some 23, .move (.tmp 0), none⟩,
 ⟨some 24, .move (.tmp 2), none⟩,
 ⟨some 25, .append 3 32 (.tmp 23) (.tmp 24), none⟩,
 ⟨some 6, .move (.tmp 25), none⟩])
 (.ret))
 (.skip)))
 (.seq (.seq (.ops [⟨some 26, .move (.tmp 8), none⟩,
 ⟨some 27, .move (.tmp 7), none⟩,
 ⟨some 28, .bin .add (.tmp 26) (.tmp 27), none⟩,
 ⟨some 29, .move (.tmp 0), none⟩,
 ⟨some 30, .capSl (.tmp 29), none⟩,
 ⟨some 31, .bin .gtr (.tmp 28) (.tmp 30), none⟩])
 (.cond (.tmp 31)
 (.seq (.ops [⟨some 32, .move (.tmp 0), none⟩,
 ⟨some 33, .move (.tmp 1), none⟩,
 ⟨some 34, .sliceSl 3 (.tmp 32) none (some (.tmp 33)) none, none⟩,
 ⟨some 35, .move (.tmp 8), none⟩,
 ⟨some 36, .move (.tmp 7), none⟩,
 ⟨some 37, .bin .add (.tmp 35) (.tmp 36), none⟩,
 ⟨some 38, .move (.tmp 1), none⟩,
 ⟨some 39, .bin .sub (.tmp 37) (.tmp 38), none⟩,
 ⟨some 40, .appendZ 32 [.int .i64 0, .bool false, .string ⟨#[]⟩] (.tmp 34) (.tmp 39), none⟩,
 ⟨some 9, .move (.tmp 40), none⟩])
 (.seq (.ops [⟨some 41, .move (.tmp 9), none⟩,
 ⟨some 42, .move (.tmp 1), none⟩,
 ⟨some 43, .sliceSl 3 (.tmp 41) (some (.tmp 42)) none none, none⟩,
 ⟨some 44, .move (.tmp 2), none⟩,
 ⟨some 45, .copy 3 (.tmp 43) (.tmp 44), none⟩])
 (.seq (.draw [(⟨some 46, .move (.tmp 9), none⟩, []),
 (⟨some 47, .move (.tmp 1), none⟩, []),
 (⟨some 48, .move (.tmp 7), none⟩, []),
 (⟨some 49, .bin .add (.tmp 47) (.tmp 48), none⟩, []),
 (⟨some 50, .sliceSl 3 (.tmp 46) (some (.tmp 49)) none none, none⟩, []),
 (⟨some 51, .move (.tmp 0), none⟩, []),
 (⟨some 52, .move (.tmp 1), none⟩, []),
 (⟨some 53, .sliceSl 3 (.tmp 51) (some (.tmp 52)) none none, none⟩, []),
 (⟨some 54, .copy 3 (.tmp 50) (.tmp 53), none⟩, [])])
 (.seq (.ops [⟨some 55, .move (.tmp 9), none⟩,
 ⟨some 6, .move (.tmp 55), none⟩])
 (.ret)))))
 (.skip)))
 (.seq (.ops [⟨some 56, .move (.tmp 0), none⟩,
 ⟨some 57, .move (.tmp 8), none⟩,
 ⟨some 58, .move (.tmp 7), none⟩,
 ⟨some 59, .bin .add (.tmp 57) (.tmp 58), none⟩,
 ⟨some 60, .sliceSl 3 (.tmp 56) none (some (.tmp 59)) none, none⟩,
 ⟨some 0, .move (.tmp 60), none⟩])
 (.seq (.seq (.ops [⟨some 61, .move (.tmp 2), none⟩,
 ⟨some 62, .move (.tmp 0), none⟩,
 ⟨some 63, .move (.tmp 1), none⟩,
 ⟨some 64, .move (.tmp 7), none⟩,
 ⟨some 65, .bin .add (.tmp 63) (.tmp 64), none⟩,
 ⟨some 66, .sliceSl 3 (.tmp 62) (some (.tmp 65)) none none, none⟩,
 ⟨some 67, .call (F 383) [.tmp 61, .tmp 66], none⟩,
 ⟨some 68, .un .not (.tmp 67), none⟩])
 (.cond (.tmp 68)
 (.seq (.draw [(⟨some 69, .move (.tmp 0), none⟩, []),
 (⟨some 70, .move (.tmp 1), none⟩, []),
 (⟨some 71, .move (.tmp 7), none⟩, []),
 (⟨some 72, .bin .add (.tmp 70) (.tmp 71), none⟩, []),
 (⟨some 73, .sliceSl 3 (.tmp 69) (some (.tmp 72)) none none, none⟩, []),
 (⟨some 74, .move (.tmp 0), none⟩, []),
 (⟨some 75, .move (.tmp 1), none⟩, []),
 (⟨some 76, .sliceSl 3 (.tmp 74) (some (.tmp 75)) none none, none⟩, []),
 (⟨some 77, .copy 3 (.tmp 73) (.tmp 76), none⟩, [])])
 (.seq (.ops [⟨some 78, .move (.tmp 0), none⟩,
 ⟨some 79, .move (.tmp 1), none⟩,
 ⟨some 80, .sliceSl 3 (.tmp 78) (some (.tmp 79)) none none, none⟩,
 ⟨some 81, .move (.tmp 2), none⟩,
 ⟨some 82, .copy 3 (.tmp 80) (.tmp 81), none⟩])
 (.seq (.ops [⟨some 83, .move (.tmp 0), none⟩,
 ⟨some 6, .move (.tmp 83), none⟩])
 (.ret))))
 (.skip)))
 (.seq (.ops [⟨some 84, .move (.tmp 0), none⟩,
 ⟨some 85, .move (.tmp 8), none⟩,
 ⟨some 86, .sliceSl 3 (.tmp 84) (some (.tmp 85)) none none, none⟩,
 ⟨some 87, .move (.tmp 2), none⟩,
 ⟨some 88, .copy 3 (.tmp 86) (.tmp 87), none⟩])
 (.seq (.ops [⟨some 89, .move (.tmp 0), none⟩,
 ⟨some 90, .move (.tmp 1), none⟩,
 ⟨some 91, .sliceSl 3 (.tmp 89) (some (.tmp 90)) none none, none⟩,
 ⟨some 92, .move (.tmp 7), none⟩,
 ⟨some 93, .call (F 384) [.tmp 91, .tmp 92], none⟩])
 (.seq (.ops [⟨some 94, .move (.tmp 0), none⟩,
 ⟨some 6, .move (.tmp 94), none⟩])
 (.ret))))))))))))⟩
/-- slices.BinarySearchFunc[[]hurdle/replies.entry,hurdle/replies.entry,int] -/
def c_slices_BinarySearchFunc_replies_entry_replies_entry_int (F : Nat → FuncId) (Ty : Nat → TypeId) : IFunc := ⟨49, [.tmp 6, .tmp 7],
 .seq (.ops [⟨some 6, .move (.const (.int .i64 0)), none⟩,
 ⟨some 7, .move (.const (.bool false)), none⟩])
 (.seq (.ops [⟨some 12, .move (.tmp 0), none⟩,
 ⟨some 13, .lenSl (.tmp 12), none⟩,
 ⟨some 8, .move (.tmp 13), none⟩])
 (.seq (.ops [⟨some 14, .move (.tmp 8), none⟩,
 ⟨some 9, .move (.const (.int .i64 0)), none⟩,
 ⟨some 10, .move (.tmp 14), none⟩])
 (.seq (.block 0 (.loop (.seq (.seq (.ops [⟨some 15, .move (.tmp 9), none⟩,
 ⟨some 16, .move (.tmp 10), none⟩,
 ⟨some 17, .bin .lss (.tmp 15) (.tmp 16), none⟩])
 (.cond (.tmp 17)
 (.skip)
 (.exit 0)))
 (.block 1 (.seq (.ops [⟨some 18, .move (.tmp 9), none⟩,
 ⟨some 19, .move (.tmp 10), none⟩,
 ⟨some 20, .bin .add (.tmp 18) (.tmp 19), none⟩,
 ⟨some 21, .conv .u64 (.tmp 20), none⟩,
 ⟨some 22, .bin .shr (.tmp 21) (.const (.int .u64 1)), none⟩,
 ⟨some 23, .conv .i64 (.tmp 22), none⟩,
 ⟨some 11, .move (.tmp 23), none⟩])
 (.seq (.ops [⟨some 24, .move (.tmp 2), none⟩,
 ⟨some 25, .move (.tmp 0), none⟩,
 ⟨some 26, .move (.tmp 11), none⟩,
 ⟨some 27, .idxSl 3 (.tmp 25) (.tmp 26), none⟩,
 ⟨some 28, .loadN 3 (.tmp 27), none⟩,
 ⟨some 29, .move (.tmp 1), none⟩,
 ⟨some 30, .callDyn (.tmp 24) [.tmp 28, .tmp 29], none⟩,
 ⟨some 31, .bin .lss (.tmp 30) (.const (.int .i64 0)), none⟩])
 (.cond (.tmp 31)
 (.ops [⟨some 32, .move (.tmp 11), none⟩,
 ⟨some 33, .bin .add (.tmp 32) (.const (.int .i64 1)), none⟩,
 ⟨some 9, .move (.tmp 33), none⟩])
 (.ops [⟨some 34, .move (.tmp 11), none⟩,
 ⟨some 10, .move (.tmp 34), none⟩]))))))))
 (.seq (.ops [⟨some 35, .move (.tmp 9), none⟩,
 ⟨some 36, .move (.tmp 9), none⟩,
 ⟨some 37, .move (.tmp 8), none⟩,
 ⟨some 38, .bin .lss (.tmp 36) (.tmp 37), none⟩,
 ⟨some 39, .move (.tmp 38), none⟩,
 ⟨some 40, .move (.tmp 2), some (39, true)⟩,
 ⟨some 41, .move (.tmp 0), some (39, true)⟩,
 ⟨some 42, .move (.tmp 9), some (39, true)⟩,
 ⟨some 43, .idxSl 3 (.tmp 41) (.tmp 42), some (39, true)⟩,
 ⟨some 44, .loadN 3 (.tmp 43), some (39, true)⟩,
 ⟨some 45, .move (.tmp 1), some (39, true)⟩,
 ⟨some 46, .callDyn (.tmp 40) [.tmp 44, .tmp 45], some (39, true)⟩,
 ⟨some 47, .bin .eql (.tmp 46) (.const (.int .i64 0)), some (39, true)⟩,
 ⟨some 48, .pick (.tmp 39) (.tmp 47) (.const (.bool false)), none⟩,
 ⟨some 6, .move (.tmp 35), none⟩,
 ⟨some 7, .move (.tmp 48), none⟩])
 (.ret)))))⟩
/-- A context has these functions. -/
structure HasRepl28 (c : Ctx) : Prop where
 replies_New : c.IP (c.F 375) = some (c_replies_New c.F c.Ty)
 replies_may : c.IP (c.F 376) = some (c_replies_may c.F c.Ty)
 replies_Replies_find : c.IP (c.F 377) = some (c_replies_Replies_find c.F c.Ty)
 replies_Replies_find_F1 : c.IP (c.F 378) = some (c_replies_Replies_find_F1 c.F c.Ty)
 replies_Replies_Take : c.IP (c.F 379) = some (c_replies_Replies_Take c.F c.Ty)
 replies_Replies_Put : c.IP (c.F 380) = some (c_replies_Replies_Put c.F c.Ty)
 slices_Insert_replies_entry_replies_entry : c.IP (c.F 381) = some (c_slices_Insert_replies_entry_replies_entry c.F c.Ty)
 slices_BinarySearchFunc_replies_entry_replies_entry_int : c.IP (c.F 382) = some (c_slices_BinarySearchFunc_replies_entry_replies_entry_int c.F c.Ty)

end Go.Proofs.YtndndcdblfejnaaGreatRI
namespace Go.Proofs.YtndndcdblfejnaaGreatRI
set_option linter.unusedSimpArgs false
set_option linter.unusedVariables false
open Go

def orX (X Y : CallT) : CallT := fun f a H K => X f a H K ∨ Y f a H K
theorem orX_mono {X Y : CallT} (h : LeC X X) (k : LeC Y Y) : LeC (orX X Y) (orX X Y) := fun f a H K K' hK hh => hh.elim (fun x => .inl (h f a H K K' hK x)) fun x => .inr (k f a H K K' hK x)
theorem orX_sim {P : Program} {X Y : CallT} (h : CSim P X) (k : CSim P Y) : CSim P (orX X Y) := fun f a H K hh => hh.elim (fun x => h f a H K x) fun x => k f a H K x
theorem overX_mono (g : FuncId) : LeC (overX g) (overX g) := by
  rintro f a H K K' hK ⟨h0, b1, o1, n1, c1, b2, o2, n2, c2, cs1, cs2, h1, h2, h3, h4, h5, h6, h7, h8, h9⟩
  exact ⟨h0, b1, o1, n1, c1, b2, o2, n2, c2, cs1, cs2, h1, h2, h3, h4, h5, h6, h7, h8, hK _ _ h9⟩
theorem Reveal_mono {H : IHeap} {size : Nat} {s : Value} {K K' : Value → IHeap → Prop} (hK : ∀ v H', K v H' → K' v H') (h : Reveal H size s K) : Reveal H size s K' := by
  rcases h with ⟨a, b⟩ | ⟨b, o, len, cs, h1, h2, h3⟩
  · exact .inl ⟨a, hK _ _ b⟩
  · exact .inr ⟨b, o, len, cs, h1, h2, fun c junk x y z => hK _ _ (h3 c junk x y z)⟩
theorem Hide_mono {H : IHeap} {size : Nat} {s : Value} {K K' : Value → IHeap → Prop} (hK : ∀ v H', K v H' → K' v H') (h : Hide H size s K) : Hide H size s K' := by
  rcases h with a | ⟨b, o, len, c, cs, h1, h2, h3, h4, h5, h6⟩
  · exact .inl (hK _ _ a)
  · exact .inr ⟨b, o, len, c, cs, h1, h2, h3, h4, h5, hK _ _ h6⟩
theorem wholeX_mono {CC : CallT} (hC : LeC CC CC) (g : FuncId) (size : Nat) : LeC (wholeX CC g size) (wholeX CC g size) := by
  rintro f a H K K' hK ⟨h0, s, r, h1, h2⟩
  exact ⟨h0, s, r, h1, Reveal_mono (fun t H1 h => hC _ _ _ _ _ (fun v H2 h => Hide_mono hK h) h) h2⟩

end Go.Proofs.YtndndcdblfejnaaGreatRI
namespace Go.Proofs.YtndndcdblfejnaaGreatRI
set_option linter.unusedSimpArgs false
set_option linter.unusedVariables false
open Go

section
variable {P : Program} {R : Ren} {H : IHeap} {w : World}

/-- From its own place on. -/
def Rebase (H : IHeap) (r : Value) (K : Value → IHeap → Prop) : Prop :=
  K r H ∨ ∃ b o len c cs, r = .slice (some ⟨b, o, none⟩) len c ∧ c < UNK ∧ H.get b = some (.cells cs false) ∧ o ≤ cs.length ∧ K (.slice (some ⟨H.next, 0, none⟩) len c) ((H.set b .dead).alloc (.cells (cs.drop o) false))
theorem rebase_sim {r r' : Value} {K : Value → IHeap → Prop} (hS : Sim R H w) (hv : VR R r r') (h : Rebase H r K) :
    ∃ R' H' t, R.le R' ∧ Sim R' H' w ∧ Ext R H w R' H' w ∧ VR R' t r' ∧ K t H' := by
  rcases h with hk | ⟨b, o, len, c, cs, rfl, hcu, hg, ho, hk⟩
  · exact ⟨R, H, _, R.le_refl, hS, Ext.refl _ _ _, hv, hk⟩
  · have hd : R.dom b := (hv.slice_some).1
    have ho' := hS.obj b hd
    rw [hg] at ho'
    obtain ⟨g1, g2, arr, t, fr, g3, g4, g5, g6⟩ := ho'
    have hcl : (cs.drop o).length = cs.length - o := List.length_drop
    obtain ⟨k1, k2, k3⟩ := sim_reid (cs2 := cs.drop o) (off := o) hS hd hg (by rw [hcl]; omega) (fun arr' t' fr' h' => by
      rw [g3] at h'
      injection h' with h'
      injection h' with e1 e2 e3
      subst e1
      rw [hcl]
      have := g5.drop o
      rw [List.drop_take, List.drop_drop] at this
      exact this)
    have hd2 : (R.addAt H.next (R.blk b) (R.base b + o) (R.size b) (cs.drop o).length).dom H.next := .inr rfl
    have eb : (R.addAt H.next (R.blk b) (R.base b + o) (R.size b) (cs.drop o).length).blk H.next = R.blk b := by simp [Ren.addAt]
    have ea : (R.addAt H.next (R.blk b) (R.base b + o) (R.size b) (cs.drop o).length).base H.next = R.base b + o := by simp [Ren.addAt]
    cases hv with
    | sliceGr _ _ _ _ e => exfalso; unfold UNK at hcu; omega
    | sliceEm _ _ e => exfalso; unfold UNK at hcu; omega
    | sliceEx _ _ _ _ _ hcc =>
      refine ⟨_, _, _, k1, k2, k3, ?_, hk⟩
      have := VR.sliceEx (R := R.addAt H.next (R.blk b) (R.base b + o) (R.size b) (cs.drop o).length) H.next 0 len c hd2 hcc
      rw [eb, ea, Nat.add_zero] at this
      exact this
    | sliceZ _ _ a => exact ⟨_, _, _, k1, k2, k3, .sliceZ _ _ _ hd2, hk⟩

/-- A call with its first argument, an own slice from some place on, seen whole; its answer hidden again. -/
def wholeO (CC : CallT) (g : FuncId) (size : Nat) : CallT := fun f args H K => f = g ∧ ∃ s r, args = s :: r ∧ Reveal H size s fun u H0 => Rebase H0 u fun t H1 => CC g (t :: r) H1 fun v H2 => Hide H2 size v K
theorem wholeO_sim {CC : CallT} {g : FuncId} {code : IFunc} {size : Nat} (hC : CSim P CC) (hg : compFunc2 P g = some code) (h1 : 1 < size) : CSim P (wholeO CC g size) := by
  obtain ⟨hen, fn, hfn, hbody⟩ := enter_of hg
  rintro f args H K ⟨rfl, s, r, rfl, hrev⟩
  refine .inl ⟨hen, fun R w args' hS hA => ?_⟩
  obtain ⟨l⟩ := args'
  cases hA with
  | cons hs hr =>
    obtain ⟨R0, H0, u, j1, j2, j3, j4, j5⟩ := reveal_sim h1 hS hs hrev
    obtain ⟨R1, H1, t, k1, k2, k3, k4, k5⟩ := rebase_sim j2 j4 j5
    rcases hC f (t :: r) H1 _ k5 with ⟨_, hc⟩ | ⟨hn, _⟩
    · refine (hc R1 w ⟨_ :: _⟩ k2 (.cons k4 ((hr.mono j1).mono k1))).mono fun e w' he => ?_
      obtain ⟨v, v', R2, H2, rfl, hh, q1, q2, q3⟩ := he
      obtain ⟨R3, H3, u, p1, p2, p3, p4, p5⟩ := hide_sim (by omega) q2 q1 hh
      exact ⟨u, v', R3, H3, rfl, p5, p4, p2, ((j3.trans k3).trans q3).trans p3⟩
    · have := hn fn hfn
      rw [hbody] at this
      cases this
end
theorem Rebase_mono {H : IHeap} {s : Value} {K K' : Value → IHeap → Prop} (hK : ∀ v H', K v H' → K' v H') (h : Rebase H s K) : Rebase H s K' := by
  rcases h with a | ⟨b, o, len, c, cs, h1, h2, h3, h4, h5⟩
  · exact .inl (hK _ _ a)
  · exact .inr ⟨b, o, len, c, cs, h1, h2, h3, h4, hK _ _ h5⟩
theorem wholeO_mono {CC : CallT} (hC : LeC CC CC) (g : FuncId) (size : Nat) : LeC (wholeO CC g size) (wholeO CC g size) := by
  rintro f a H K K' hK ⟨h0, s, r, h1, h2⟩
  exact ⟨h0, s, r, h1, Reveal_mono (fun u H0 h => Rebase_mono (fun t H1 h => hC _ _ _ _ _ (fun v H2 h => Hide_mono hK h) h) h) h2⟩

end Go.Proofs.YtndndcdblfejnaaGreatRI
namespace Go.Proofs.YtndndcdblfejnaaGreatRI
attribute [local simp] J0 J1 J2 J3 J4 J5 J6 J7 J8 J9 Ja Jb Jc Jd Je Jf Jg Jh Ji Jj Jk Jl Jm Jn Jo Jp Jq Jr Js Jt Ju Jv Jw Jx Jy Jz JA JB JC JD JE JF JG JH JI JJ JK JL JM JN JO JP JQ JR JS stillI IOp.kind JT JU JV JW JX JY JZ Y0 Y1 Y2 Y3 Y4 Y5 Y6 Y7 Y8 Y9 Ya Yb Yc Yd Ye Yf Yg Yh Yi Yj Yk Yl Ym Yn Yo Yp Yq ial Yr Ys Yt Yu Yv Yw Yx Yy ires iresL ires1 Yz YA YB YC YD YE bin2 YF YG YH YI YJ YK YL YM YN YO YP YQ YR YS YT YU un1 shOk eqL eq1 fillL putAt IHeap.load1 IHeap.loadL IHeap.storeL YV YW YX YY YZ B0 B1 B2 B3 B4 B5 B6 B7 B8 B9 Ba Bb Bc Bd Be Bf Bg Bh Bi Bj Bk Bl Bm Bn Bo Bp
set_option linter.unusedSimpArgs false
set_option linter.unusedVariables false
open Go

section
variable (c : Ctx) (hc : HasRepl28 c) (hO : ∀ (H : IHeap) (K : Value → IHeap → Prop) (b1 o1 n1 c1 b2 o2 n2 c2 : Nat) (cs1 cs2 : List Value), b1 ≠ b2 → 0 < n1 → 0 < n2 → H.get b1 = some (.cells cs1 false) → H.get b2 = some (.cells cs2 false) → o1 ≤ cs1.length → cs2 ≠ [] → K (.bool false) H →
  c.C (c.F 383) [.slice (some ⟨b1, o1, none⟩) n1 c1, .slice (some ⟨b2, o2, none⟩) n2 c2] H K) {H : IHeap} {K : Value → IHeap → Prop}

include hc in
theorem Ins_nilE {vb : Nat} {new : List Value} (hv : H.get vb = some (.cells new false)) (hn : new.length = 3) (hK : K (.slice (some ⟨H.next, 0, none⟩) 1 (UNK + 3)) (H.alloc (.cells new false))) :
    c.C (c.F n_slices_Insert_replies_entry_replies_entry) [.slice none 0 0, .int .i64 0, .slice (some ⟨vb, 0, none⟩) 1 1] H K := by
  refine c.enter hc.slices_Insert_replies_entry_replies_entry rfl ?_
  have s0 : sliceI H 3 none 0 0 0 0 none = some (.slice none 0 0) := by simp [sliceI, UNK]
  have f1 : firstI H 3 1 (.slice (some ⟨vb, 0, none⟩) 1 1) = some new := by simp [firstI, IHeap.loadL, hv, hn, List.take_of_length_le]
  have a1 : appendI H 3 32 (.slice none 0 0) 1 new = some (.slice (some ⟨H.next, 0, none⟩) 1 (UNK + 3), H.alloc (.cells new false)) := by simp [appendI, hn]
  simp -implicitDefEqProofs [c_slices_Insert_replies_entry_replies_entry, boundsI, natI, s0, lenOfI, f1, a1]
  exact hK

include hc hO in
theorem Ins_knownE {b cp n i vb : Nat} {L A B new : List Value} (hb : H.get b = some (.cells L false)) (hv : H.get vb = some (.cells new false)) (hne : vb ≠ b) (hvl : vb < H.next) (hbl : b < H.next) (hn : new.length = 3) (hn1 : new.all one1 = true)
    (hA : A.length = i * 3) (hB : B.length = (n - i) * 3) (hin : i ≤ n) (hnl : n ≤ 1000000) (hcp : n ≤ cp) (hcu : cp < UNK) (hL : L.take (A.length + B.length) = A ++ B) (hroom : cp = 0 ∨ cp * 3 ≤ L.length) (hone : (A ++ B).all one1 = true)
    (hK1 : ∀ L' H', n + 1 ≤ cp → L'.length = L.length → L'.take ((n + 1) * 3) = A ++ new ++ B → H'.next = H.next → H'.get b = some (.cells L' false) → (∀ x, x ≠ b → H'.get x = H.get x) → K (.slice (some ⟨b, 0, none⟩) (n + 1) cp) H')
    (hK2 : ∀ H', H.le H' → H'.next = H.next + 1 → H'.get H.next = some (.cells (A ++ new ++ B) false) → K (.slice (some ⟨H.next, 0, none⟩) (n + 1) (UNK + 3)) H') :
    c.C (c.F n_slices_Insert_replies_entry_replies_entry) [.slice (some ⟨b, 0, none⟩) n cp, .int .i64 i, .slice (some ⟨vb, 0, none⟩) 1 1] H K := by
  refine c.enter hc.slices_Insert_replies_entry_replies_entry rfl ?_
  have hAB : A.length + B.length = n * 3 := by rw [hA, hB]; omega
  obtain ⟨x0, hx0⟩ : ∃ x, sliceI H 3 (some ⟨b, 0, none⟩) n cp i n none = some x := by
    unfold sliceI
    rw [if_pos hcu, if_pos (by simp; omega)]
    exact ⟨_, rfl⟩
  have hi0 : (0 : Int) ≤ (i : Int) := by omega
  have f1 : firstI H 3 1 (.slice (some ⟨vb, 0, none⟩) 1 1) = some new := by simp [firstI, IHeap.loadL, hv, hn, List.take_of_length_le]
  by_cases hie : i = n
  · subst hie
    have hBn : B = [] := List.length_eq_zero_iff.1 (by rw [hB]; omega)
    subst hBn
    rw [List.append_nil] at hL hone hK1 hK2
    rw [List.length_nil, Nat.add_zero] at hL hAB
    by_cases hr : i + 1 ≤ cp
    · have hcl : cp * 3 ≤ L.length := hroom.resolve_left (by omega)
      obtain ⟨L1, hL1⟩ : ∃ L1, L1 = putAt L (i * 3) new := ⟨_, rfl⟩
      have a1 : appendI H 3 32 (.slice (some ⟨b, 0, none⟩) i cp) 1 new = some (.slice (some ⟨b, 0, none⟩) (i + 1) cp, H.set b (.cells L1 false)) := by
        simp only [appendI, IHeap.storeL, hb]
        rw [if_pos ⟨by omega, by omega, by omega, by omega, by omega⟩, if_neg (by omega), if_pos ⟨hcu, hr⟩, if_pos ⟨by omega, hn1⟩, hL1]
        simp
      simp -implicitDefEqProofs [c_slices_Insert_replies_entry_replies_entry, boundsI, natI, hx0, lenOfI, f1, a1]
      refine hK1 L1 _ hr (by rw [hL1]; exact put_len (by omega)) ?_ rfl (by rw [YW, if_pos rfl]) fun x hx => by rw [YW, if_neg hx]
      have := put_end (L := L) (F := A) (new := new) hL (by omega)
      rw [hA, hn] at this
      rw [show (i + 1) * 3 = i * 3 + 3 by omega, hL1]
      exact this
    · have f2 : firstI H 3 i (.slice (some ⟨b, 0, none⟩) i cp) = some A := by
        simp only [firstI, IHeap.loadL, hb]
        by_cases hz : i * 3 = 0
        · rw [if_pos hz]
          have : A = [] := List.length_eq_zero_iff.1 (by rw [hA]; exact hz)
          rw [this]
        · rw [if_neg hz, if_pos (by have := congrArg List.length hL; rw [List.length_take] at this; omega), List.drop_zero, ← hA, hL]
      have a1 : appendI H 3 32 (.slice (some ⟨b, 0, none⟩) i cp) 1 new = some (.slice (some ⟨H.next, 0, none⟩) (i + 1) (UNK + 3), H.alloc (.cells (A ++ new) false)) := by
        simp only [appendI, f2]
        rw [if_pos ⟨by omega, by omega, by omega, by omega, by omega⟩, if_neg (by omega), if_neg (by omega), if_pos hcu]
      simp -implicitDefEqProofs [c_slices_Insert_replies_entry_replies_entry, boundsI, natI, hx0, lenOfI, f1, a1]
      exact hK2 _ (H.le_alloc _) rfl (by rw [YV, if_pos rfl])
  · have hilt : i < n := by omega
    have hcl : cp * 3 ≤ L.length := hroom.resolve_left (by omega)
    have hieI : ¬ (i : Int) = (n : Int) := by omega
    have w1 : IntKind.i64.wrap ((n : Int) + 1) = (n : Int) + 1 := wrap64 (by omega) (by omega)
    have w2 : IntKind.i64.wrap ((i : Int) + 1) = (i : Int) + 1 := wrap64 (by omega) (by omega)
    have q1 : (0 : Int) ≤ (n : Int) + 1 := by omega
    have q2 : (0 : Int) ≤ (i : Int) + 1 := by omega
    have t1 : ((n : Int) + 1).toNat = n + 1 := by omega
    have t2 : ((i : Int) + 1).toNat = i + 1 := by omega
    have hLn : n * 3 ≤ L.length := by omega
    have hLA : (L.take A.length) = A := by
      have := congrArg (List.take A.length) hL
      rwa [List.take_take, Nat.min_eq_left (by omega), List.take_left] at this
    have hLB : (L.drop (i * 3)).take ((n - i) * 3) = B := by
      have := congrArg (List.drop A.length) hL
      rw [List.drop_left, List.drop_take, Nat.add_sub_cancel_left, hA, hB] at this
      exact this
    have hBn : 0 < (n - i) * 3 := by omega
    have hn1' : ∀ x ∈ new, one1 x = true := List.all_eq_true.1 hn1
    have hnn : ¬ new = [] := by intro e; rw [e] at hn; simp at hn
    have hBnn : ¬ B = [] := by intro e; rw [e] at hB; simp at hB; omega
    have hB1 : B.all one1 = true := by rw [List.all_append, Bool.and_eq_true] at hone; exact hone.2
    have hB1' : ∀ x ∈ B, one1 x = true := List.all_eq_true.1 hB1
    by_cases hr : n + 1 ≤ cp
    · have hrI : ¬ (cp : Int) < (n : Int) + 1 := by omega
      have s60 : sliceI H 3 (some ⟨b, 0, none⟩) n cp 0 (n + 1) none = some (.slice (some ⟨b, 0, none⟩) (n + 1) cp) := by
        unfold sliceI
        rw [if_pos hcu, if_pos (by simp; omega)]
        simp only [Option.getD_none, Nat.sub_zero]
        rw [if_neg (by omega)]
        simp [Addr.add]
      have sI : ∀ (X : IHeap) (k : Nat), k ≤ n → sliceI X 3 (some ⟨b, 0, none⟩) (n + 1) cp k (n + 1) none = some (.slice (some ⟨b, k * 3, none⟩) (n + 1 - k) (cp - k)) := by
        intro X k hk
        unfold sliceI
        rw [if_pos hcu, if_pos (by simp; omega)]
        simp only [Option.getD_none]
        rw [if_neg (by omega)]
        simp only [addr_add, Nat.zero_add]
      have s66 := sI H (i + 1) (by omega)
      have s76 := sI H i (by omega)
      have e1 : n + 1 - (i + 1) = n - i := by omega
      rw [e1] at s66
      have ii : i ≤ n + 1 := by omega
      have ii2 : i + 1 ≤ n + 1 := by omega
      have m1 : Nat.min (n + 1 - i) (n - i) = n - i := Nat.min_eq_right (by omega)
      have m2 : Nat.min 1 (n + 1 - i) = 1 := Nat.min_eq_left (by omega)
      have m1' : min (n + 1 - i) (n - i) = n - i := Nat.min_eq_right (by omega)
      have m2' : min 1 (n + 1 - i) = 1 := Nat.min_eq_left (by omega)
      have fB : firstI H 3 (n - i) (.slice (some ⟨b, i * 3, none⟩) (n + 1 - i) (cp - i)) = some B := by
        simp only [firstI, IHeap.loadL, hb]
        rw [if_neg (by omega), if_pos (by omega), hLB]
      have hBl : ¬ B.length = 0 := by omega
      have hnl0 : ¬ new.length = 0 := by omega
      obtain ⟨L1, hL1⟩ : ∃ L1, L1 = putAt L ((i + 1) * 3) B := ⟨_, rfl⟩
      have l1 : L1.length = L.length := by rw [hL1]; exact put_len (by omega)
      have st1 : H.storeL b ((i + 1) * 3) B = some (H.set b (.cells L1 false)) := by
        simp only [IHeap.storeL, hb]
        rw [if_pos ⟨by omega, hB1⟩, hL1]
      obtain ⟨H1, hH1⟩ : ∃ X : IHeap, X = H.set b (.cells L1 false) := ⟨_, rfl⟩
      rw [← hH1] at st1
      have g1 : H1.get b = some (.cells L1 false) := by rw [hH1, YW, if_pos rfl]
      have gv : H1.get vb = some (.cells new false) := by rw [hH1, YW, if_neg hne]; exact hv
      have f2 : firstI H1 3 1 (.slice (some ⟨vb, 0, none⟩) 1 1) = some new := by simp [firstI, IHeap.loadL, gv, hn, List.take_of_length_le]
      have s80 := sI H1 i (by omega)
      obtain ⟨L2, hL2⟩ : ∃ L2, L2 = putAt L1 (i * 3) new := ⟨_, rfl⟩
      have st2 : H1.storeL b (i * 3) new = some (H1.set b (.cells L2 false)) := by
        simp only [IHeap.storeL, g1]
        rw [if_pos ⟨by omega, hn1⟩, hL2]
      simp -implicitDefEqProofs [c_slices_Insert_replies_entry_replies_entry, boundsI, natI, hin, hx0, lenOfI, hie, hieI, w1, w2, hcu, hrI, q1, q2, t1, t2, s60, s66, ii, ii2]
      refine call_of (hO _ _ _ _ _ _ _ _ _ _ _ _ hne (by omega) (by omega) hv hb (by omega) (by intro e; rw [e] at hcl; simp at hcl; omega) ?_)
      have k1 : (i + 1) * 3 + B.length ≤ L.length := by omega
      have k2 : i * 3 + new.length ≤ L1.length := by omega
      have fo1 : List.take ((i + 1) * 3) L ++ (B ++ List.drop ((i + 1) * 3 + B.length) L) = L1 := by rw [hL1, putAt, List.append_assoc]
      have fo2 : List.take (i * 3) L1 ++ (new ++ List.drop (i * 3 + new.length) L1) = L2 := by rw [hL2, putAt, List.append_assoc]
      simp -implicitDefEqProofs [boundsI, natI, w2, q2, t2, s66, s76, ii, ii2, lenOfI, m1, m1', fB, hBnn, hb, k1, hB1, fo1, ← hH1, s80, m2, m2', f2, hnn, g1, k2, hn1, fo2, -List.all_eq_true]
      have nx : (H1.set b (.cells L2 false)).next = H.next := by rw [hH1]; rfl
      refine hK1 L2 _ hr (by rw [hL2, put_len (by omega), l1]) ?_ nx (by rw [YW, if_pos rfl]) fun x hx => by rw [YW, if_neg hx, hH1, YW, if_neg hx]
      have := put_mid (L := L) (A := A) (B := B) (new := new) hL (by omega)
      rw [hA, hn, hB, show i * 3 + 3 = (i + 1) * 3 by omega, ← hL1, ← hL2] at this
      rw [show (n + 1) * 3 = (i + 1) * 3 + (n - i) * 3 by omega]
      exact this
    · have hrI : (cp : Int) < (n : Int) + 1 := by omega
      have w3 : IntKind.i64.wrap ((n : Int) + 1 - (i : Int)) = (n : Int) + 1 - (i : Int) := wrap64 (by omega) (by omega)
      obtain ⟨kk, hkk⟩ : ∃ kk, kk = n + 1 - i := ⟨_, rfl⟩
      have c1 : (0 : Int) ≤ (n : Int) + 1 - (i : Int) := by omega
      have c2 : ((n : Int) + 1 - (i : Int)) * 32 ≤ 17592186044416 := by omega
      have c3 : (n : Int) + 1 - (i : Int) ≤ 17592186044416 := by omega
      have c4 : ((n : Int) + 1 - (i : Int)).toNat = kk := by omega
      have s34 : sliceI H 3 (some ⟨b, 0, none⟩) n cp 0 i none = some (.slice (some ⟨b, 0, none⟩) i cp) := by
        unfold sliceI
        rw [if_pos hcu, if_pos (by simp; omega)]
        simp only [Option.getD_none, Nat.sub_zero]
        rw [if_neg (by omega)]
        simp [Addr.add]
      obtain ⟨Z, hZ⟩ : ∃ Z, Z = (Builtin.zeroCells #[Value.int .i64 0, .bool false, .string ⟨#[]⟩] kk).toList := ⟨_, rfl⟩
      have hZl : Z.length = kk * 3 := by rw [hZ, Array.length_toList, zeroCells_size]; rfl
      have fA : firstI H 3 i (.slice (some ⟨b, 0, none⟩) i cp) = some A := by
        simp only [firstI, IHeap.loadL, hb]
        by_cases hz : i * 3 = 0
        · rw [if_pos hz]
          have : A = [] := List.length_eq_zero_iff.1 (by rw [hA]; exact hz)
          rw [this]
        · rw [if_neg hz, if_pos (by omega), List.drop_zero, ← hA, hLA]
      obtain ⟨H1, hH1⟩ : ∃ X : IHeap, X = H.alloc (.cells (A ++ Z) false) := ⟨_, rfl⟩
      have a1 : appendI H 3 32 (.slice (some ⟨b, 0, none⟩) i cp) kk Z = some (.slice (some ⟨H.next, 0, none⟩) (n + 1) (UNK + 3), H1) := by
        simp only [appendI, fA]
        rw [if_pos ⟨by omega, by omega, by omega, by omega, by omega⟩, if_neg (by omega), if_neg (by omega), if_pos hcu, hH1, show i + kk = n + 1 by omega]
      have g1 : H1.get H.next = some (.cells (A ++ Z) false) := by rw [hH1, YV, if_pos rfl]
      have gb1 : H1.get b = some (.cells L false) := by rw [hH1, YV, if_neg (by omega)]; exact hb
      have gv1 : H1.get vb = some (.cells new false) := by rw [hH1, YV, if_neg (by omega)]; exact hv
      have sG : ∀ (X : IHeap) (k : Nat), k ≤ n → sliceI X 3 (some ⟨H.next, 0, none⟩) (n + 1) (UNK + 3) k (n + 1) none = some (.slice (some ⟨H.next, k * 3, none⟩) (n + 1 - k) (UNK + 3)) := by
        intro X k hk
        unfold sliceI
        rw [if_neg (by omega)]
        simp
      have s43 := sG H1 i (by omega)
      have f1' : firstI H1 3 1 (.slice (some ⟨vb, 0, none⟩) 1 1) = some new := by simp [firstI, IHeap.loadL, gv1, hn, List.take_of_length_le]
      obtain ⟨L1, hL1⟩ : ∃ L1, L1 = putAt (A ++ Z) (i * 3) new := ⟨_, rfl⟩
      have l1 : L1.length = (n + 1) * 3 := by rw [hL1, put_len (by rw [List.length_append]; omega), List.length_append]; omega
      obtain ⟨H2, hH2⟩ : ∃ X : IHeap, X = H1.set H.next (.cells L1 false) := ⟨_, rfl⟩
      have st1 : H1.storeL H.next (i * 3) new = some H2 := by
        simp only [IHeap.storeL, g1]
        rw [if_pos ⟨by rw [List.length_append]; omega, hn1⟩, hH2, hL1]
      have g2 : H2.get H.next = some (.cells L1 false) := by rw [hH2, YW, if_pos rfl]
      have gb2 : H2.get b = some (.cells L false) := by rw [hH2, YW, if_neg (by omega)]; exact gb1
      have s50 := sG H2 (i + 1) (by omega)
      rw [show n + 1 - (i + 1) = n - i by omega] at s50
      have s53 : sliceI H2 3 (some ⟨b, 0, none⟩) n cp i n none = some (.slice (some ⟨b, i * 3, none⟩) (n - i) (cp - i)) := by
        unfold sliceI
        rw [if_pos hcu, if_pos (by simp; omega)]
        simp only [Option.getD_none]
        rw [if_neg (by omega)]
        simp only [addr_add, Nat.zero_add]
      have fB : firstI H2 3 (n - i) (.slice (some ⟨b, i * 3, none⟩) (n - i) (cp - i)) = some B := by
        simp only [firstI, IHeap.loadL, gb2]
        rw [if_neg (by omega), if_pos (by omega), hLB]
      obtain ⟨L2, hL2⟩ : ∃ L2, L2 = putAt L1 ((i + 1) * 3) B := ⟨_, rfl⟩
      have st2 : H2.storeL H.next ((i + 1) * 3) B = some (H2.set H.next (.cells L2 false)) := by
        simp only [IHeap.storeL, g2]
        rw [if_pos ⟨by omega, hB1⟩, hL2]
      have ii : i ≤ n + 1 := by omega
      have ii2 : i + 1 ≤ n + 1 := by omega
      have m1 : Nat.min (n - i) (n - i) = n - i := Nat.min_self _
      have m2 : Nat.min 1 (n + 1 - i) = 1 := Nat.min_eq_left (by omega)
      have m2' : min 1 (n + 1 - i) = 1 := Nat.min_eq_left (by omega)
      have hBl : ¬ B.length = 0 := by omega
      have hnl0 : ¬ new.length = 0 := by omega
      have hE : L2 = A ++ new ++ B := by
        have e1 : L1 = A ++ new ++ Z.drop 3 := by
          rw [hL1]
          unfold putAt
          rw [← hA, List.take_left, List.drop_append, List.drop_of_length_le (by omega), hn, Nat.add_sub_cancel_left]
          simp
        have l3 : L2.length = L1.length := by rw [hL2]; exact put_len (by omega)
        rw [hL2]
        unfold putAt
        have e2 : (i + 1) * 3 = (A ++ new).length := by rw [List.length_append]; omega
        rw [List.drop_of_length_le (by omega), List.append_nil, e2]
        conv => lhs; rw [e1]
        rw [List.take_left]
      have c1' : (i : Int) ≤ (n : Int) + 1 := by omega
      have hAZ : (A ++ Z).length = (n + 1) * 3 := by rw [List.length_append]; omega
      obtain ⟨Y, hY⟩ : ∃ Y, Y = A ++ Z := ⟨_, rfl⟩
      rw [← hY] at g1 hL1 hAZ
      have k1 : i * 3 + new.length ≤ Y.length := by omega
      have k2 : (i + 1) * 3 + B.length ≤ L1.length := by omega
      have fo1 : List.take (i * 3) Y ++ (new ++ List.drop (i * 3 + new.length) Y) = L1 := by rw [hL1, putAt, List.append_assoc]
      have fo2 : List.take ((i + 1) * 3) L1 ++ (B ++ List.drop ((i + 1) * 3 + B.length) L1) = L2 := by rw [hL2, putAt, List.append_assoc]
      simp -implicitDefEqProofs [c_slices_Insert_replies_entry_replies_entry, boundsI, natI, hin, hx0, lenOfI, hie, hieI, w1, w2, w3, hcu, hrI, s34, c1, c1', c2, c3, c4, ← hZ, a1, s43, ii, q2, t2, m2, m2', f1', hnn, g1, k1, hn1, fo1, ← hH2, ii2, s50, s53, m1, fB, hBnn, g2, k2, hB1, fo2, -List.all_eq_true]
      refine hK2 _ (by rw [hH2, hH1]; exact ((H.le_alloc _).set (Nat.le_refl _) _).set (Nat.le_refl _) _) (by rw [hH2, hH1]; rfl) (by rw [YW, if_pos rfl, hE])

end
end Go.Proofs.YtndndcdblfejnaaGreatRI
