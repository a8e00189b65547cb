/- PRINTED by gen.py (this session's own): the intermediate form of some functions, and a context's having them. -/
import Derived.Test.YtafnkmiggmfbdaaPartBalD
namespace Go.Proofs.YtafnkmiggmfbdaaI
set_option linter.unusedSimpArgs false
set_option linter.unusedVariables false
open Go

/-- hurdle/proposer.New -/
abbrev n_proposer_New : Nat := 275
/-- (*hurdle/proposer.Proposer).Lead -/
abbrev n_proposer_Proposer_Lead : Nat := 276
/-- (*hurdle/proposer.Proposer).count -/
abbrev n_proposer_Proposer_count : Nat := 277
/-- (*hurdle/proposer.Proposer).Promise -/
abbrev n_proposer_Proposer_Promise : Nat := 278
/-- (*hurdle/proposer.Proposer).Leads -/
abbrev n_proposer_Proposer_Leads : Nat := 279
/-- (*hurdle/proposer.Proposer).vote -/
abbrev n_proposer_Proposer_vote : Nat := 280
/-- (*hurdle/proposer.Proposer).Fill -/
abbrev n_proposer_Proposer_Fill : Nat := 281
/-- (*hurdle/proposer.Proposer).Propose -/
abbrev n_proposer_Proposer_Propose : Nat := 282
/-- (*hurdle/proposer.Proposer).Step -/
abbrev n_proposer_Proposer_Step : Nat := 283
/-- (*hurdle/proposer.Proposer).Next -/
abbrev n_proposer_Proposer_Next : Nat := 284
/-- hurdle/proposer.New -/
def c_proposer_New (F : Nat → FuncId) (Ty : Nat → TypeId) : IFunc := ⟨21, [.tmp 4],
 .seq (.ops [⟨some 4, .move (.const (.pointer none)), none⟩])
 (.seq (.seq (.ops [⟨some 5, .move (.tmp 0), none⟩,
 ⟨some 6, .call (F 7) [.tmp 5], none⟩,
 ⟨some 7, .bin .eql (.tmp 6) (.const (.int .i64 0)), none⟩,
 ⟨some 8, .move (.tmp 7), none⟩,
 ⟨some 9, .move (.tmp 1), some (8, false)⟩,
 ⟨some 10, .bin .lss (.tmp 9) (.const (.int .i64 0)), some (8, false)⟩,
 ⟨some 11, .pick (.tmp 8) (.const (.bool true)) (.tmp 10), none⟩,
 ⟨some 12, .move (.tmp 11), none⟩,
 ⟨some 13, .move (.tmp 1), some (12, false)⟩,
 ⟨some 14, .move (.tmp 0), some (12, false)⟩,
 ⟨some 15, .bin .geq (.tmp 13) (.tmp 14), some (12, false)⟩,
 ⟨some 16, .pick (.tmp 12) (.const (.bool true)) (.tmp 15), none⟩])
 (.cond (.tmp 16)
 (.seq (.ops [⟨some 4, .move (.const (.pointer none)), none⟩])
 (.ret))
 (.skip)))
 (.seq (.ops [⟨some 17, .move (.tmp 0), none⟩,
 ⟨some 18, .move (.tmp 1), none⟩,
 ⟨some 19, .build [.int .i64 0, .int .i64 0, .int .i64 0, .int .i64 0, .int .i64 0, .int .i64 0, .int .i64 0, .bool false, .bool false, .bool false, .bool false, .bool false, .bool false, .bool false, .bool false, .map none] [((0, 1), .tmp 17), ((1, 1), .tmp 18)], none⟩,
 ⟨some 20, .box (.tmp 19), none⟩,
 ⟨some 4, .move (.tmp 20), none⟩])
 (.ret)))⟩
/-- (*hurdle/proposer.Proposer).Lead -/
def c_proposer_Proposer_Lead (F : Nat → FuncId) (Ty : Nat → TypeId) : IFunc := ⟨59, [.cellN 6 2, .tmp 7],
 .seq (.ops [⟨some 4, .box (.tmp 1), none⟩,
 ⟨some 6, .alloc [.int .i64 0, .int .i64 0], none⟩,
 ⟨some 7, .move (.const (.int .i64 0)), none⟩])
 (.seq (.seq (.ops [⟨some 10, .move (.tmp 0), none⟩,
 ⟨some 11, .eqNil 0 false (.tmp 10), none⟩,
 ⟨some 12, .move (.tmp 11), none⟩,
 ⟨some 13, .loadN 2 (.tmp 4), some (12, false)⟩,
 ⟨some 14, .call (F 5) [.tmp 13], some (12, false)⟩,
 ⟨some 15, .un .not (.tmp 14), some (12, false)⟩,
 ⟨some 16, .pick (.tmp 12) (.const (.bool true)) (.tmp 15), none⟩,
 ⟨some 17, .move (.tmp 16), none⟩,
 ⟨some 18, .move (.tmp 2), some (17, false)⟩,
 ⟨some 19, .bin .lss (.tmp 18) (.const (.int .i64 0)), some (17, false)⟩,
 ⟨some 20, .pick (.tmp 17) (.const (.bool true)) (.tmp 19), none⟩,
 ⟨some 21, .move (.tmp 20), none⟩,
 ⟨some 22, .move (.tmp 2), some (21, false)⟩,
 ⟨some 23, .bin .geq (.tmp 22) (.const (.int .i64 1024)), some (21, false)⟩,
 ⟨some 24, .pick (.tmp 21) (.const (.bool true)) (.tmp 23), none⟩])
 (.cond (.tmp 24)
 (.seq (.ops [⟨some 25, .build [.int .i64 0, .int .i64 0] [], none⟩,
 ⟨none, .store 2 (.tmp 6) (.tmp 25), none⟩,
 ⟨some 7, .move (.const (.int .i64 1)), none⟩])
 (.ret))
 (.skip)))
 (.seq (.draw [(⟨some 26, .loadN 2 (.tmp 4), none⟩, []),
 (⟨some 27, .move (.tmp 0), none⟩, []),
 (⟨some 28, .nilCheck (.tmp 27), none⟩, []),
 (⟨some 29, .fieldAddr 2 (.tmp 28), none⟩, []),
 (⟨some 30, .loadN 2 (.tmp 29), none⟩, []),
 (⟨some 31, .buildSlice 2 [.int .i64 0, .int .i64 0, .int .i64 0, .int .i64 0] [((0, 2), .tmp 26), ((2, 2), .tmp 30)], none⟩, []),
 (⟨some 8, .alloc [.int .i64 0, .int .i64 0], none⟩, []),
 (⟨some 32, .call (F 9) [.tmp 31], none⟩, []),
 (⟨none, .store 2 (.tmp 8) (.tmp 32), none⟩, [])])
 (.seq (.seq (.ops [⟨some 33, .fieldAddr 0 (.tmp 8), none⟩,
 ⟨some 34, .load1 (.tmp 33), none⟩,
 ⟨some 35, .bin .geq (.tmp 34) (.const (.int .i64 2147483647)), none⟩])
 (.cond (.tmp 35)
 (.seq (.ops [⟨some 36, .build [.int .i64 0, .int .i64 0] [], none⟩,
 ⟨none, .store 2 (.tmp 6) (.tmp 36), none⟩,
 ⟨some 7, .move (.const (.int .i64 5)), none⟩])
 (.ret))
 (.skip)))
 (.seq (.draw [(⟨some 37, .loadN 2 (.tmp 8), none⟩, []),
 (⟨some 38, .move (.tmp 0), none⟩, []),
 (⟨some 39, .nilCheck (.tmp 38), none⟩, []),
 (⟨some 40, .fieldAddr 1 (.tmp 39), none⟩, []),
 (⟨some 41, .load1 (.tmp 40), none⟩, []),
 (⟨some 9, .alloc [.int .i64 0, .int .i64 0], none⟩, []),
 (⟨some 42, .call (F 6) [.tmp 37, .tmp 41], none⟩, []),
 (⟨none, .store 2 (.tmp 9) (.tmp 42), none⟩, [])])
 (.seq (.draw [(⟨some 43, .move (.tmp 0), none⟩, []),
 (⟨some 44, .move (.tmp 0), none⟩, []),
 (⟨some 45, .nilCheck (.tmp 44), none⟩, []),
 (⟨some 46, .fieldAddr 0 (.tmp 45), none⟩, []),
 (⟨some 47, .load1 (.tmp 46), none⟩, []),
 (⟨some 48, .move (.tmp 0), none⟩, []),
 (⟨some 49, .nilCheck (.tmp 48), none⟩, []),
 (⟨some 50, .fieldAddr 1 (.tmp 49), none⟩, []),
 (⟨some 51, .load1 (.tmp 50), none⟩, []),
 (⟨some 52, .loadN 2 (.tmp 9), none⟩, []),
 (⟨some 53, .move (.tmp 2), none⟩, []),
 (⟨some 54, .move (.tmp 2), none⟩, []),
 (⟨some 55, .mkMap, none⟩, []),
 (⟨some 56, .build [.int .i64 0, .int .i64 0, .int .i64 0, .int .i64 0, .int .i64 0, .int .i64 0, .int .i64 0, .bool false, .bool false, .bool false, .bool false, .bool false, .bool false, .bool false, .bool false, .map none] [((0, 1), .tmp 47), ((1, 1), .tmp 51), ((2, 2), .tmp 52), ((4, 1), .const (.int .i64 1)), ((5, 1), .tmp 53), ((6, 1), .tmp 54), ((15, 1), .tmp 55)], none⟩, []),
 (⟨some 57, .nilCheck (.tmp 43), none⟩, []),
 (⟨none, .store 16 (.tmp 57) (.tmp 56), none⟩, [])])
 (.seq (.ops [⟨some 58, .loadN 2 (.tmp 9), none⟩,
 ⟨none, .store 2 (.tmp 6) (.tmp 58), none⟩,
 ⟨some 7, .move (.const (.int .i64 0)), none⟩])
 (.ret)))))))⟩
/-- (*hurdle/proposer.Proposer).count -/
def c_proposer_Proposer_count (F : Nat → FuncId) (Ty : Nat → TypeId) : IFunc := ⟨68, [],
 .seq (.ops [⟨some 3, .box (.tmp 1), none⟩])
 (.seq (.seq (.draw [(⟨some 6, .fieldAddr 0 (.tmp 3), none⟩, []),
 (⟨some 7, .load1 (.tmp 6), none⟩, []),
 (⟨some 8, .move (.tmp 0), none⟩, []),
 (⟨some 9, .nilCheck (.tmp 8), none⟩, []),
 (⟨some 10, .fieldAddr 5 (.tmp 9), none⟩, []),
 (⟨some 11, .load1 (.tmp 10), none⟩, []),
 (⟨some 12, .bin .lss (.tmp 7) (.tmp 11), none⟩, []),
 (⟨some 13, .move (.tmp 12), none⟩, []),
 (⟨some 14, .fieldAddr 0 (.tmp 3), some (13, false)⟩, []),
 (⟨some 15, .load1 (.tmp 14), some (13, false)⟩, []),
 (⟨some 16, .bin .geq (.tmp 15) (.const (.int .i64 1024)), some (13, false)⟩, []),
 (⟨some 17, .pick (.tmp 13) (.const (.bool true)) (.tmp 16), none⟩, []),
 (⟨some 18, .move (.tmp 17), none⟩, []),
 (⟨some 19, .fieldAddr 1 (.tmp 3), some (18, false)⟩, []),
 (⟨some 20, .loadN 2 (.tmp 19), some (18, false)⟩, []),
 (⟨some 21, .call (F 5) [.tmp 20], some (18, false)⟩, []),
 (⟨some 22, .un .not (.tmp 21), some (18, false)⟩, []),
 (⟨some 23, .pick (.tmp 18) (.const (.bool true)) (.tmp 22), none⟩, []),
 (⟨some 24, .move (.tmp 23), none⟩, []),
 (⟨some 25, .fieldAddr 3 (.tmp 3), some (24, false)⟩, []),
 (⟨some 26, .load1 (.tmp 25), some (24, false)⟩, []),
 (⟨some 27, .strLen (.tmp 26), some (24, false)⟩, []),
 (⟨some 28, .bin .gtr (.tmp 27) (.const (.int .i64 4096)), some (24, false)⟩, []),
 (⟨some 29, .pick (.tmp 24) (.const (.bool true)) (.tmp 28), none⟩, [])])
 (.cond (.tmp 29)
 (.ret)
 (.skip)))
 (.seq (.draw [(⟨some 30, .move (.tmp 0), none⟩, []),
 (⟨some 31, .move (.tmp 0), none⟩, []),
 (⟨some 32, .nilCheck (.tmp 31), none⟩, []),
 (⟨some 33, .fieldAddr 6 (.tmp 32), none⟩, []),
 (⟨some 34, .load1 (.tmp 33), none⟩, []),
 (⟨some 35, .fieldAddr 0 (.tmp 3), none⟩, []),
 (⟨some 36, .load1 (.tmp 35), none⟩, []),
 (⟨some 37, .bin .add (.tmp 36) (.const (.int .i64 1)), none⟩, []),
 (⟨some 38, .mxn true (.tmp 34) (.tmp 37), none⟩, []),
 (⟨some 39, .nilCheck (.tmp 30), none⟩, []),
 (⟨some 40, .fieldAddr 6 (.tmp 39), none⟩, []),
 (⟨none, .store 1 (.tmp 40) (.tmp 38), none⟩, [])])
 (.seq (.draw [(⟨some 42, .move (.tmp 0), none⟩, []),
 (⟨some 43, .nilCheck (.tmp 42), none⟩, []),
 (⟨some 44, .fieldAddr 15 (.tmp 43), none⟩, []),
 (⟨some 45, .load1 (.tmp 44), none⟩, []),
 (⟨some 46, .fieldAddr 0 (.tmp 3), none⟩, []),
 (⟨some 47, .load1 (.tmp 46), none⟩, []),
 (⟨some 48, .lookup (Ty 2) (.agg #[.int .i64 0, .int .i64 0, .int .i64 0, .string ⟨#[]⟩]) true (.tmp 45) (.tmp 47), none⟩, []),
 (⟨some 41, .move (.tmp 48), none⟩, []),
 (⟨some 49, .extract (.tmp 41) 0, none⟩, []),
 (⟨some 50, .extract (.tmp 41) 1, none⟩, []),
 (⟨some 4, .alloc [.int .i64 0, .int .i64 0, .int .i64 0, .string ⟨#[]⟩], none⟩, []),
 (⟨none, .store 4 (.tmp 4) (.tmp 49), none⟩, []),
 (⟨some 5, .move (.tmp 50), none⟩, [])])
 (.seq (.ops [⟨some 51, .move (.tmp 5), none⟩,
 ⟨some 52, .un .not (.tmp 51), none⟩,
 ⟨some 53, .move (.tmp 52), none⟩,
 ⟨some 54, .fieldAddr 1 (.tmp 3), some (53, false)⟩,
 ⟨some 55, .loadN 2 (.tmp 54), some (53, false)⟩,
 ⟨some 56, .fieldAddr 1 (.tmp 4), some (53, false)⟩,
 ⟨some 57, .loadN 2 (.tmp 56), some (53, false)⟩,
 ⟨some 58, .call (F 4) [.tmp 55, .tmp 57], some (53, false)⟩,
 ⟨some 59, .bin .gtr (.tmp 58) (.const (.int .i64 0)), some (53, false)⟩,
 ⟨some 60, .pick (.tmp 53) (.const (.bool true)) (.tmp 59), none⟩])
 (.cond (.tmp 60)
 (.draw [(⟨some 61, .move (.tmp 0), none⟩, []),
 (⟨some 62, .nilCheck (.tmp 61), none⟩, []),
 (⟨some 63, .fieldAddr 15 (.tmp 62), none⟩, []),
 (⟨some 64, .load1 (.tmp 63), none⟩, []),
 (⟨some 65, .fieldAddr 0 (.tmp 3), none⟩, []),
 (⟨some 66, .load1 (.tmp 65), none⟩, []),
 (⟨some 67, .loadN 4 (.tmp 3), none⟩, []),
 (⟨none, .mapUpdate (Ty 2) (.tmp 64) (.tmp 66) (.tmp 67), none⟩, [])])
 (.skip))))))⟩
/-- (*hurdle/proposer.Proposer).Promise -/
def c_proposer_Proposer_Promise (F : Nat → FuncId) (Ty : Nat → TypeId) : IFunc := ⟨87, [.tmp 8],
 .seq (.ops [⟨some 6, .box (.tmp 2), none⟩,
 ⟨some 8, .move (.const (.bool false)), none⟩])
 (.seq (.seq (.draw [(⟨some 14, .move (.tmp 0), none⟩, []),
 (⟨some 15, .eqNil 0 false (.tmp 14), none⟩, []),
 (⟨some 16, .move (.tmp 15), none⟩, []),
 (⟨some 17, .move (.tmp 0), some (16, false)⟩, []),
 (⟨some 18, .nilCheck (.tmp 17), some (16, false)⟩, []),
 (⟨some 19, .fieldAddr 4 (.tmp 18), some (16, false)⟩, []),
 (⟨some 20, .load1 (.tmp 19), some (16, false)⟩, []),
 (⟨some 21, .bin .neq (.tmp 20) (.const (.int .i64 1)), some (16, false)⟩, []),
 (⟨some 22, .pick (.tmp 16) (.const (.bool true)) (.tmp 21), none⟩, []),
 (⟨some 23, .move (.tmp 22), none⟩, []),
 (⟨some 24, .move (.tmp 1), some (23, false)⟩, []),
 (⟨some 25, .bin .lss (.tmp 24) (.const (.int .i64 0)), some (23, false)⟩, []),
 (⟨some 26, .pick (.tmp 23) (.const (.bool true)) (.tmp 25), none⟩, []),
 (⟨some 27, .move (.tmp 26), none⟩, []),
 (⟨some 28, .move (.tmp 1), some (27, false)⟩, []),
 (⟨some 29, .move (.tmp 0), some (27, false)⟩, []),
 (⟨some 30, .nilCheck (.tmp 29), some (27, false)⟩, []),
 (⟨some 31, .fieldAddr 0 (.tmp 30), some (27, false)⟩, []),
 (⟨some 32, .load1 (.tmp 31), some (27, false)⟩, []),
 (⟨some 33, .bin .geq (.tmp 28) (.tmp 32), some (27, false)⟩, []),
 (⟨some 34, .pick (.tmp 27) (.const (.bool true)) (.tmp 33), none⟩, []),
 (⟨some 35, .move (.tmp 34), none⟩, []),
 (⟨some 36, .loadN 2 (.tmp 6), some (35, false)⟩, []),
 (⟨some 37, .move (.tmp 0), some (35, false)⟩, []),
 (⟨some 38, .nilCheck (.tmp 37), some (35, false)⟩, []),
 (⟨some 39, .fieldAddr 2 (.tmp 38), some (35, false)⟩, []),
 (⟨some 40, .loadN 2 (.tmp 39), some (35, false)⟩, []),
 (⟨some 41, .eqv true [.i .i64, .i .i64] (.tmp 36) (.tmp 40), some (35, false)⟩, []),
 (⟨some 42, .pick (.tmp 35) (.const (.bool true)) (.tmp 41), none⟩, []),
 (⟨some 43, .move (.tmp 42), none⟩, []),
 (⟨some 44, .move (.tmp 0), some (43, false)⟩, []),
 (⟨some 45, .move (.tmp 1), some (43, false)⟩, []),
 (⟨some 46, .nilCheck (.tmp 44), some (43, false)⟩, []),
 (⟨some 47, .fieldAddr 8 (.tmp 46), some (43, false)⟩, []),
 (⟨some 48, .idxArr 7 1 (.tmp 47) (.tmp 45), some (43, false)⟩, []),
 (⟨some 49, .load1 (.tmp 48), some (43, false)⟩, []),
 (⟨some 50, .pick (.tmp 43) (.const (.bool true)) (.tmp 49), none⟩, [])])
 (.cond (.tmp 50)
 (.seq (.ops [⟨some 8, .move (.const (.bool false)), none⟩])
 (.ret))
 (.skip)))
 (.seq (.ops [⟨some 51, .move (.tmp 0), none⟩,
 ⟨some 52, .move (.tmp 1), none⟩,
 ⟨some 53, .nilCheck (.tmp 51), none⟩,
 ⟨some 54, .fieldAddr 8 (.tmp 53), none⟩,
 ⟨some 55, .idxArr 7 1 (.tmp 54) (.tmp 52), none⟩,
 ⟨none, .store 1 (.tmp 55) (.const (.bool true)), none⟩])
 (.seq (.seq (.ops [⟨some 56, .move (.tmp 3), none⟩,
 ⟨some 57, .lenSl (.tmp 56), none⟩,
 ⟨some 58, .move (.const (.int .i64 0)), none⟩])
 (.block 0 (.loop (.seq (.ops [⟨some 59, .bin .lss (.tmp 58) (.tmp 57), none⟩])
 (.seq (.cond (.tmp 59)
 (.skip)
 (.exit 0))
 (.seq (.block 1 (.seq (.ops [⟨some 60, .idxSl 4 (.tmp 56) (.tmp 58), none⟩,
 ⟨some 61, .loadN 4 (.tmp 60), none⟩,
 ⟨some 10, .alloc [.int .i64 0, .int .i64 0, .int .i64 0, .string ⟨#[]⟩], none⟩,
 ⟨none, .store 4 (.tmp 10) (.tmp 61), none⟩])
 (.ops [⟨some 62, .move (.tmp 0), none⟩,
 ⟨some 63, .loadN 4 (.tmp 10), none⟩,
 ⟨some 64, .call (F 277) [.tmp 62, .tmp 63], none⟩])))
 (.ops [⟨some 65, .bin .add (.tmp 58) (.const (.int .i64 1)), none⟩,
 ⟨some 58, .move (.tmp 65), none⟩])))))))
 (.seq (.ops [⟨some 11, .move (.const (.int .i64 0)), none⟩])
 (.seq (.seq (.ops [⟨some 66, .move (.tmp 0), none⟩,
 ⟨some 67, .nilCheck (.tmp 66), none⟩,
 ⟨some 68, .fieldAddr 8 (.tmp 67), none⟩,
 ⟨some 69, .loadN 7 (.tmp 68), none⟩,
 ⟨some 70, .move (.const (.int .i64 0)), none⟩])
 (.block 2 (.loop (.seq (.ops [⟨some 71, .bin .lss (.tmp 70) (.const (.int .i64 7)), none⟩])
 (.seq (.cond (.tmp 71)
 (.skip)
 (.exit 2))
 (.seq (.block 3 (.seq (.ops [⟨some 72, .idxAgg1 7 (.tmp 69) (.tmp 70), none⟩,
 ⟨some 13, .move (.tmp 72), none⟩])
 (.seq (.ops [⟨some 73, .move (.tmp 13), none⟩])
 (.cond (.tmp 73)
 (.ops [⟨some 74, .move (.tmp 11), none⟩,
 ⟨some 75, .bin .add (.tmp 74) (.const (.int .i64 1)), none⟩,
 ⟨some 11, .move (.tmp 75), none⟩])
 (.skip)))))
 (.ops [⟨some 76, .bin .add (.tmp 70) (.const (.int .i64 1)), none⟩,
 ⟨some 70, .move (.tmp 76), none⟩])))))))
 (.seq (.seq (.ops [⟨some 77, .move (.tmp 11), none⟩,
 ⟨some 78, .move (.tmp 0), none⟩,
 ⟨some 79, .nilCheck (.tmp 78), none⟩,
 ⟨some 80, .fieldAddr 0 (.tmp 79), none⟩,
 ⟨some 81, .load1 (.tmp 80), none⟩,
 ⟨some 82, .call (F 7) [.tmp 81], none⟩,
 ⟨some 83, .bin .lss (.tmp 77) (.tmp 82), none⟩])
 (.cond (.tmp 83)
 (.seq (.ops [⟨some 8, .move (.const (.bool false)), none⟩])
 (.ret))
 (.skip)))
 (.seq (.ops [⟨some 84, .move (.tmp 0), none⟩,
 ⟨some 85, .nilCheck (.tmp 84), none⟩,
 ⟨some 86, .fieldAddr 4 (.tmp 85), none⟩,
 ⟨none, .store 1 (.tmp 86) (.const (.int .i64 2)), none⟩])
 (.seq (.ops [⟨some 8, .move (.const (.bool true)), none⟩])
 (.ret)))))))))⟩
/-- (*hurdle/proposer.Proposer).Leads -/
def c_proposer_Proposer_Leads (F : Nat → FuncId) (Ty : Nat → TypeId) : IFunc := ⟨12, [.tmp 2],
 .seq (.ops [⟨some 2, .move (.const (.bool false)), none⟩])
 (.seq (.ops [⟨some 3, .move (.tmp 0), none⟩,
 ⟨some 4, .eqNil 0 true (.tmp 3), none⟩,
 ⟨some 5, .move (.tmp 4), none⟩,
 ⟨some 6, .move (.tmp 0), some (5, true)⟩,
 ⟨some 7, .nilCheck (.tmp 6), some (5, true)⟩,
 ⟨some 8, .fieldAddr 4 (.tmp 7), some (5, true)⟩,
 ⟨some 9, .load1 (.tmp 8), some (5, true)⟩,
 ⟨some 10, .bin .eql (.tmp 9) (.const (.int .i64 2)), some (5, true)⟩,
 ⟨some 11, .pick (.tmp 5) (.tmp 10) (.const (.bool false)), none⟩,
 ⟨some 2, .move (.tmp 11), none⟩])
 (.ret))⟩
/-- (*hurdle/proposer.Proposer).vote -/
def c_proposer_Proposer_vote (F : Nat → FuncId) (Ty : Nat → TypeId) : IFunc := ⟨14, [.cellN 6 4],
 .seq (.ops [⟨some 6, .alloc [.int .i64 0, .int .i64 0, .int .i64 0, .string ⟨#[]⟩], none⟩])
 (.seq (.ops [⟨some 7, .move (.tmp 1), none⟩,
 ⟨some 8, .move (.tmp 0), none⟩,
 ⟨some 9, .nilCheck (.tmp 8), none⟩,
 ⟨some 10, .fieldAddr 2 (.tmp 9), none⟩,
 ⟨some 11, .loadN 2 (.tmp 10), none⟩,
 ⟨some 12, .move (.tmp 2), none⟩,
 ⟨some 13, .build [.int .i64 0, .int .i64 0, .int .i64 0, .string ⟨#[]⟩] [((0, 1), .tmp 7), ((1, 2), .tmp 11), ((3, 1), .tmp 12)], none⟩,
 ⟨none, .store 4 (.tmp 6) (.tmp 13), none⟩])
 (.ret))⟩
/-- (*hurdle/proposer.Proposer).Fill -/
def c_proposer_Proposer_Fill (F : Nat → FuncId) (Ty : Nat → TypeId) : IFunc := ⟨59, [.tmp 2],
 .seq (.ops [⟨some 2, .move (.const (.slice none 0 0)), none⟩])
 (.seq (.seq (.ops [⟨some 7, .move (.tmp 0), none⟩,
 ⟨some 8, .call (F 279) [.tmp 7], none⟩,
 ⟨some 9, .un .not (.tmp 8), none⟩,
 ⟨some 10, .move (.tmp 9), none⟩,
 ⟨some 11, .move (.tmp 0), some (10, false)⟩,
 ⟨some 12, .nilCheck (.tmp 11), some (10, false)⟩,
 ⟨some 13, .fieldAddr 7 (.tmp 12), some (10, false)⟩,
 ⟨some 14, .load1 (.tmp 13), some (10, false)⟩,
 ⟨some 15, .pick (.tmp 10) (.const (.bool true)) (.tmp 14), none⟩])
 (.cond (.tmp 15)
 (.seq (.ops [⟨some 2, .move (.const (.slice none 0 0)), none⟩])
 (.ret))
 (.skip)))
 (.seq (.ops [⟨some 16, .move (.tmp 0), none⟩,
 ⟨some 17, .nilCheck (.tmp 16), none⟩,
 ⟨some 18, .fieldAddr 7 (.tmp 17), none⟩,
 ⟨none, .store 1 (.tmp 18) (.const (.bool true)), none⟩])
 (.seq (.ops [⟨some 19, .move (.tmp 0), none⟩,
 ⟨some 20, .nilCheck (.tmp 19), none⟩,
 ⟨some 21, .fieldAddr 5 (.tmp 20), none⟩,
 ⟨some 22, .load1 (.tmp 21), none⟩,
 ⟨some 3, .move (.tmp 22), none⟩])
 (.seq (.seq (.ops [⟨some 23, .move (.tmp 0), none⟩,
 ⟨some 24, .nilCheck (.tmp 23), none⟩,
 ⟨some 25, .fieldAddr 15 (.tmp 24), none⟩,
 ⟨some 26, .load1 (.tmp 25), none⟩,
 ⟨some 27, .rangeMap (.tmp 26), none⟩])
 (.block 0 (.loop (.seq (.ops [⟨some 28, .nextMap (.tmp 27), none⟩,
 ⟨some 29, .extract (.tmp 28) 0, none⟩])
 (.seq (.cond (.tmp 29)
 (.skip)
 (.exit 0))
 (.block 1 (.seq (.ops [⟨some 30, .entryMap (.tmp 27), none⟩,
 ⟨some 31, .extract (.tmp 30) 0, none⟩,
 ⟨some 4, .move (.tmp 31), none⟩])
 (.ops [⟨some 32, .move (.tmp 3), none⟩,
 ⟨some 33, .move (.tmp 4), none⟩,
 ⟨some 34, .bin .add (.tmp 33) (.const (.int .i64 1)), none⟩,
 ⟨some 35, .mxn true (.tmp 32) (.tmp 34), none⟩,
 ⟨some 3, .move (.tmp 35), none⟩]))))))))
 (.seq (.ops [⟨some 5, .move (.const (.slice none 0 0)), none⟩])
 (.seq (.seq (.ops [⟨some 36, .move (.tmp 0), none⟩,
 ⟨some 37, .nilCheck (.tmp 36), none⟩,
 ⟨some 38, .fieldAddr 5 (.tmp 37), none⟩,
 ⟨some 39, .load1 (.tmp 38), none⟩,
 ⟨some 6, .move (.tmp 39), none⟩])
 (.block 2 (.loop (.seq (.seq (.ops [⟨some 40, .move (.tmp 6), none⟩,
 ⟨some 41, .move (.tmp 3), none⟩,
 ⟨some 42, .bin .lss (.tmp 40) (.tmp 41), none⟩])
 (.cond (.tmp 42)
 (.skip)
 (.exit 2)))
 (.seq (.block 3 (.ops [⟨some 45, .move (.tmp 5), none⟩,
 ⟨some 46, .move (.tmp 0), none⟩,
 ⟨some 47, .move (.tmp 6), none⟩,
 ⟨some 48, .move (.tmp 0), none⟩,
 ⟨some 49, .nilCheck (.tmp 48), none⟩,
 ⟨some 50, .fieldAddr 15 (.tmp 49), none⟩,
 ⟨some 51, .load1 (.tmp 50), none⟩,
 ⟨some 52, .move (.tmp 6), none⟩,
 ⟨some 53, .lookup (Ty 2) (.agg #[.int .i64 0, .int .i64 0, .int .i64 0, .string ⟨#[]⟩]) false (.tmp 51) (.tmp 52), none⟩,
 ⟨some 54, .part1 3 (.tmp 53), none⟩,
 ⟨some 55, .call (F 280) [.tmp 46, .tmp 47, .tmp 54], none⟩,
 ⟨some 56, .buildSlice 1 [.int .i64 0, .int .i64 0, .int .i64 0, .string ⟨#[]⟩] [((0, 4), .tmp 55)], none⟩,
 ⟨some 57, .append 4 40 (.tmp 45) (.tmp 56), none⟩,
 ⟨some 5, .move (.tmp 57), none⟩]))
 (.ops [⟨some 43, .move (.tmp 6), none⟩,
 ⟨some 44, .bin .add (.tmp 43) (.const (.int .i64 1)), none⟩,
 ⟨some 6, .move (.tmp 44), none⟩]))))))
 (.seq (.ops [⟨some 58, .move (.tmp 5), none⟩,
 ⟨some 2, .move (.tmp 58), none⟩])
 (.ret))))))))⟩
/-- (*hurdle/proposer.Proposer).Propose -/
def c_proposer_Proposer_Propose (F : Nat → FuncId) (Ty : Nat → TypeId) : IFunc := ⟨44, [.cellN 4 4, .tmp 5],
 .seq (.ops [⟨some 4, .alloc [.int .i64 0, .int .i64 0, .int .i64 0, .string ⟨#[]⟩], none⟩,
 ⟨some 5, .move (.const (.int .i64 0)), none⟩])
 (.seq (.block 0 (.seq (.ops [⟨some 7, .move (.tmp 0), none⟩,
 ⟨some 8, .eqNil 0 false (.tmp 7), none⟩,
 ⟨some 6, .move (.tmp 8), none⟩])
 (.cond (.tmp 6)
 (.seq (.ops [⟨some 9, .build [.int .i64 0, .int .i64 0, .int .i64 0, .string ⟨#[]⟩] [], none⟩,
 ⟨none, .store 4 (.tmp 4) (.tmp 9), none⟩,
 ⟨some 5, .move (.const (.int .i64 1)), none⟩])
 (.ret))
 (.seq (.ops [⟨some 11, .move (.tmp 1), none⟩,
 ⟨some 12, .strLen (.tmp 11), none⟩,
 ⟨some 13, .bin .gtr (.tmp 12) (.const (.int .i64 4096)), none⟩,
 ⟨some 10, .move (.tmp 13), none⟩])
 (.cond (.tmp 10)
 (.seq (.ops [⟨some 14, .build [.int .i64 0, .int .i64 0, .int .i64 0, .string ⟨#[]⟩] [], none⟩,
 ⟨none, .store 4 (.tmp 4) (.tmp 14), none⟩,
 ⟨some 5, .move (.const (.int .i64 2)), none⟩])
 (.ret))
 (.seq (.ops [⟨some 16, .move (.tmp 0), none⟩,
 ⟨some 17, .nilCheck (.tmp 16), none⟩,
 ⟨some 18, .fieldAddr 6 (.tmp 17), none⟩,
 ⟨some 19, .load1 (.tmp 18), none⟩,
 ⟨some 20, .bin .geq (.tmp 19) (.const (.int .i64 1024)), none⟩,
 ⟨some 15, .move (.tmp 20), none⟩])
 (.cond (.tmp 15)
 (.seq (.ops [⟨some 21, .build [.int .i64 0, .int .i64 0, .int .i64 0, .string ⟨#[]⟩] [], none⟩,
 ⟨none, .store 4 (.tmp 4) (.tmp 21), none⟩,
 ⟨some 5, .move (.const (.int .i64 5)), none⟩])
 (.ret))
 (.seq (.ops [⟨some 23, .move (.tmp 0), none⟩,
 ⟨some 24, .nilCheck (.tmp 23), none⟩,
 ⟨some 25, .fieldAddr 4 (.tmp 24), none⟩,
 ⟨some 26, .load1 (.tmp 25), none⟩,
 ⟨some 27, .bin .neq (.tmp 26) (.const (.int .i64 2)), none⟩,
 ⟨some 22, .move (.tmp 27), none⟩])
 (.cond (.tmp 22)
 (.seq (.ops [⟨some 28, .build [.int .i64 0, .int .i64 0, .int .i64 0, .string ⟨#[]⟩] [], none⟩,
 ⟨none, .store 4 (.tmp 4) (.tmp 28), none⟩,
 ⟨some 5, .move (.const (.int .i64 16)), none⟩])
 (.ret))
 (.skip))))))))))
 (.seq (.ops [⟨some 29, .move (.tmp 0), none⟩,
 ⟨some 30, .nilCheck (.tmp 29), none⟩,
 ⟨some 31, .fieldAddr 6 (.tmp 30), none⟩,
 ⟨some 32, .load1 (.tmp 31), none⟩,
 ⟨some 33, .bin .add (.tmp 32) (.const (.int .i64 1)), none⟩,
 ⟨some 34, .nilCheck (.tmp 29), none⟩,
 ⟨some 35, .fieldAddr 6 (.tmp 34), none⟩,
 ⟨none, .store 1 (.tmp 35) (.tmp 33), none⟩])
 (.seq (.ops [⟨some 36, .move (.tmp 0), none⟩,
 ⟨some 37, .move (.tmp 0), none⟩,
 ⟨some 38, .nilCheck (.tmp 37), none⟩,
 ⟨some 39, .fieldAddr 6 (.tmp 38), none⟩,
 ⟨some 40, .load1 (.tmp 39), none⟩,
 ⟨some 41, .bin .sub (.tmp 40) (.const (.int .i64 1)), none⟩,
 ⟨some 42, .move (.tmp 1), none⟩,
 ⟨some 43, .call (F 280) [.tmp 36, .tmp 41, .tmp 42], none⟩,
 ⟨none, .store 4 (.tmp 4) (.tmp 43), none⟩,
 ⟨some 5, .move (.const (.int .i64 0)), none⟩])
 (.ret))))⟩
/-- (*hurdle/proposer.Proposer).Step -/
def c_proposer_Proposer_Step (F : Nat → FuncId) (Ty : Nat → TypeId) : IFunc := ⟨28, [.tmp 4],
 .seq (.ops [⟨some 3, .box (.tmp 1), none⟩,
 ⟨some 4, .move (.const (.bool false)), none⟩])
 (.seq (.seq (.draw [(⟨some 5, .move (.tmp 0), none⟩, []),
 (⟨some 6, .eqNil 0 false (.tmp 5), none⟩, []),
 (⟨some 7, .move (.tmp 6), none⟩, []),
 (⟨some 8, .loadN 2 (.tmp 3), some (7, false)⟩, []),
 (⟨some 9, .call (F 5) [.tmp 8], some (7, false)⟩, []),
 (⟨some 10, .un .not (.tmp 9), some (7, false)⟩, []),
 (⟨some 11, .pick (.tmp 7) (.const (.bool true)) (.tmp 10), none⟩, []),
 (⟨some 12, .move (.tmp 11), none⟩, []),
 (⟨some 13, .loadN 2 (.tmp 3), some (12, false)⟩, []),
 (⟨some 14, .move (.tmp 0), some (12, false)⟩, []),
 (⟨some 15, .nilCheck (.tmp 14), some (12, false)⟩, []),
 (⟨some 16, .fieldAddr 2 (.tmp 15), some (12, false)⟩, []),
 (⟨some 17, .loadN 2 (.tmp 16), some (12, false)⟩, []),
 (⟨some 18, .call (F 4) [.tmp 13, .tmp 17], some (12, false)⟩, []),
 (⟨some 19, .bin .leq (.tmp 18) (.const (.int .i64 0)), some (12, false)⟩, []),
 (⟨some 20, .pick (.tmp 12) (.const (.bool true)) (.tmp 19), none⟩, [])])
 (.cond (.tmp 20)
 (.seq (.ops [⟨some 4, .move (.const (.bool false)), none⟩])
 (.ret))
 (.skip)))
 (.seq (.ops [⟨some 21, .move (.tmp 0), none⟩,
 ⟨some 22, .move (.tmp 0), none⟩,
 ⟨some 23, .loadN 2 (.tmp 3), none⟩,
 ⟨some 24, .nilCheck (.tmp 21), none⟩,
 ⟨some 25, .fieldAddr 2 (.tmp 24), none⟩,
 ⟨none, .store 2 (.tmp 25) (.tmp 23), none⟩,
 ⟨some 26, .nilCheck (.tmp 22), none⟩,
 ⟨some 27, .fieldAddr 4 (.tmp 26), none⟩,
 ⟨none, .store 1 (.tmp 27) (.const (.int .i64 0)), none⟩])
 (.seq (.ops [⟨some 4, .move (.const (.bool true)), none⟩])
 (.ret))))⟩
/-- (*hurdle/proposer.Proposer).Next -/
def c_proposer_Proposer_Next (F : Nat → FuncId) (Ty : Nat → TypeId) : IFunc := ⟨9, [.tmp 2],
 .seq (.ops [⟨some 2, .move (.const (.int .i64 0)), none⟩])
 (.seq (.seq (.ops [⟨some 3, .move (.tmp 0), none⟩,
 ⟨some 4, .eqNil 0 false (.tmp 3), none⟩])
 (.cond (.tmp 4)
 (.seq (.ops [⟨some 2, .move (.const (.int .i64 0)), none⟩])
 (.ret))
 (.skip)))
 (.seq (.ops [⟨some 5, .move (.tmp 0), none⟩,
 ⟨some 6, .nilCheck (.tmp 5), none⟩,
 ⟨some 7, .fieldAddr 6 (.tmp 6), none⟩,
 ⟨some 8, .load1 (.tmp 7), none⟩,
 ⟨some 2, .move (.tmp 8), none⟩])
 (.ret)))⟩
/-- A context has these functions. -/
structure HasProp (c : Ctx) : Prop where
 proposer_New : c.IP (c.F 275) = some (c_proposer_New c.F c.Ty)
 proposer_Proposer_Lead : c.IP (c.F 276) = some (c_proposer_Proposer_Lead c.F c.Ty)
 proposer_Proposer_count : c.IP (c.F 277) = some (c_proposer_Proposer_count c.F c.Ty)
 proposer_Proposer_Promise : c.IP (c.F 278) = some (c_proposer_Proposer_Promise c.F c.Ty)
 proposer_Proposer_Leads : c.IP (c.F 279) = some (c_proposer_Proposer_Leads c.F c.Ty)
 proposer_Proposer_vote : c.IP (c.F 280) = some (c_proposer_Proposer_vote c.F c.Ty)
 proposer_Proposer_Fill : c.IP (c.F 281) = some (c_proposer_Proposer_Fill c.F c.Ty)
 proposer_Proposer_Propose : c.IP (c.F 282) = some (c_proposer_Proposer_Propose c.F c.Ty)
 proposer_Proposer_Step : c.IP (c.F 283) = some (c_proposer_Proposer_Step c.F c.Ty)
 proposer_Proposer_Next : c.IP (c.F 284) = some (c_proposer_Proposer_Next c.F c.Ty)

end Go.Proofs.YtafnkmiggmfbdaaI
