/- PRINTED by gen.py (this session's own): the intermediate form of some functions, and a context's having them. / Who proposes: how it stands in the heap; what each function does (first part). / Who proposes: what each function does (second part). / Who proposes: asking. -/
import Derived.Test.YtpbbjfighohokaaBalD
import Derived.Test.YtpbbjfighohokaaVotes
namespace Go.Proofs.YtpbbjfighohokaaI
set_option linter.unusedSimpArgs false
set_option linter.unusedVariables false
open Go

/-- hurdle/proposer.New -/
abbrev n_proposer_New : Nat := 275
/-- (*hurdle/proposer.Proposer).Lead -/
abbrev n_proposer_Proposer_Lead : Nat := 276
/-- (*hurdle/proposer.Proposer).count -/
abbrev n_proposer_Proposer_count : Nat := 277
/-- (*hurdle/proposer.Proposer).Promise -/
abbrev n_proposer_Proposer_Promise : Nat := 278
/-- (*hurdle/proposer.Proposer).Leads -/
abbrev n_proposer_Proposer_Leads : Nat := 279
/-- (*hurdle/proposer.Proposer).vote -/
abbrev n_proposer_Proposer_vote : Nat := 280
/-- (*hurdle/proposer.Proposer).Fill -/
abbrev n_proposer_Proposer_Fill : Nat := 281
/-- (*hurdle/proposer.Proposer).Propose -/
abbrev n_proposer_Proposer_Propose : Nat := 282
/-- (*hurdle/proposer.Proposer).Step -/
abbrev n_proposer_Proposer_Step : Nat := 283
/-- hurdle/proposer.New -/
def c_proposer_New (F : Nat → FuncId) (Ty : Nat → TypeId) : IFunc := ⟨21, [.tmp 4],
 .seq (.ops [⟨some 4, .move (.const (.pointer none)), none⟩])
 (.seq (.seq (.ops [⟨some 5, .move (.tmp 0), none⟩,
 ⟨some 6, .call (F 7) [.tmp 5], none⟩,
 ⟨some 7, .bin .eql (.tmp 6) (.const (.int .i64 0)), none⟩,
 ⟨some 8, .move (.tmp 7), none⟩,
 ⟨some 9, .move (.tmp 1), some (8, false)⟩,
 ⟨some 10, .bin .lss (.tmp 9) (.const (.int .i64 0)), some (8, false)⟩,
 ⟨some 11, .pick (.tmp 8) (.const (.bool true)) (.tmp 10), none⟩,
 ⟨some 12, .move (.tmp 11), none⟩,
 ⟨some 13, .move (.tmp 1), some (12, false)⟩,
 ⟨some 14, .move (.tmp 0), some (12, false)⟩,
 ⟨some 15, .bin .geq (.tmp 13) (.tmp 14), some (12, false)⟩,
 ⟨some 16, .pick (.tmp 12) (.const (.bool true)) (.tmp 15), none⟩])
 (.cond (.tmp 16)
 (.seq (.ops [⟨some 4, .move (.const (.pointer none)), none⟩])
 (.ret))
 (.skip)))
 (.seq (.ops [⟨some 17, .move (.tmp 0), none⟩,
 ⟨some 18, .move (.tmp 1), none⟩,
 ⟨some 19, .build [.int .i64 0, .int .i64 0, .int .i64 0, .int .i64 0, .int .i64 0, .int .i64 0, .int .i64 0, .bool false, .bool false, .bool false, .bool false, .bool false, .bool false, .bool false, .bool false, .map none] [((0, 1), .tmp 17), ((1, 1), .tmp 18)], none⟩,
 ⟨some 20, .box (.tmp 19), none⟩,
 ⟨some 4, .move (.tmp 20), none⟩])
 (.ret)))⟩
/-- (*hurdle/proposer.Proposer).Lead -/
def c_proposer_Proposer_Lead (F : Nat → FuncId) (Ty : Nat → TypeId) : IFunc := ⟨59, [.cellN 6 2, .tmp 7],
 .seq (.ops [⟨some 4, .box (.tmp 1), none⟩,
 ⟨some 6, .alloc [.int .i64 0, .int .i64 0], none⟩,
 ⟨some 7, .move (.const (.int .i64 0)), none⟩])
 (.seq (.seq (.ops [⟨some 10, .move (.tmp 0), none⟩,
 ⟨some 11, .eqNil 0 false (.tmp 10), none⟩,
 ⟨some 12, .move (.tmp 11), none⟩,
 ⟨some 13, .loadN 2 (.tmp 4), some (12, false)⟩,
 ⟨some 14, .call (F 5) [.tmp 13], some (12, false)⟩,
 ⟨some 15, .un .not (.tmp 14), some (12, false)⟩,
 ⟨some 16, .pick (.tmp 12) (.const (.bool true)) (.tmp 15), none⟩,
 ⟨some 17, .move (.tmp 16), none⟩,
 ⟨some 18, .move (.tmp 2), some (17, false)⟩,
 ⟨some 19, .bin .lss (.tmp 18) (.const (.int .i64 0)), some (17, false)⟩,
 ⟨some 20, .pick (.tmp 17) (.const (.bool true)) (.tmp 19), none⟩,
 ⟨some 21, .move (.tmp 20), none⟩,
 ⟨some 22, .move (.tmp 2), some (21, false)⟩,
 ⟨some 23, .bin .geq (.tmp 22) (.const (.int .i64 1024)), some (21, false)⟩,
 ⟨some 24, .pick (.tmp 21) (.const (.bool true)) (.tmp 23), none⟩])
 (.cond (.tmp 24)
 (.seq (.ops [⟨some 25, .build [.int .i64 0, .int .i64 0] [], none⟩,
 ⟨none, .store 2 (.tmp 6) (.tmp 25), none⟩,
 ⟨some 7, .move (.const (.int .i64 1)), none⟩])
 (.ret))
 (.skip)))
 (.seq (.draw [(⟨some 26, .loadN 2 (.tmp 4), none⟩, []),
 (⟨some 27, .move (.tmp 0), none⟩, []),
 (⟨some 28, .nilCheck (.tmp 27), none⟩, []),
 (⟨some 29, .fieldAddr 2 (.tmp 28), none⟩, []),
 (⟨some 30, .loadN 2 (.tmp 29), none⟩, []),
 (⟨some 31, .buildSlice 2 [.int .i64 0, .int .i64 0, .int .i64 0, .int .i64 0] [((0, 2), .tmp 26), ((2, 2), .tmp 30)], none⟩, []),
 (⟨some 8, .alloc [.int .i64 0, .int .i64 0], none⟩, []),
 (⟨some 32, .call (F 9) [.tmp 31], none⟩, []),
 (⟨none, .store 2 (.tmp 8) (.tmp 32), none⟩, [])])
 (.seq (.seq (.ops [⟨some 33, .fieldAddr 0 (.tmp 8), none⟩,
 ⟨some 34, .load1 (.tmp 33), none⟩,
 ⟨some 35, .bin .geq (.tmp 34) (.const (.int .i64 2147483647)), none⟩])
 (.cond (.tmp 35)
 (.seq (.ops [⟨some 36, .build [.int .i64 0, .int .i64 0] [], none⟩,
 ⟨none, .store 2 (.tmp 6) (.tmp 36), none⟩,
 ⟨some 7, .move (.const (.int .i64 5)), none⟩])
 (.ret))
 (.skip)))
 (.seq (.draw [(⟨some 37, .loadN 2 (.tmp 8), none⟩, []),
 (⟨some 38, .move (.tmp 0), none⟩, []),
 (⟨some 39, .nilCheck (.tmp 38), none⟩, []),
 (⟨some 40, .fieldAddr 1 (.tmp 39), none⟩, []),
 (⟨some 41, .load1 (.tmp 40), none⟩, []),
 (⟨some 9, .alloc [.int .i64 0, .int .i64 0], none⟩, []),
 (⟨some 42, .call (F 6) [.tmp 37, .tmp 41], none⟩, []),
 (⟨none, .store 2 (.tmp 9) (.tmp 42), none⟩, [])])
 (.seq (.draw [(⟨some 43, .move (.tmp 0), none⟩, []),
 (⟨some 44, .move (.tmp 0), none⟩, []),
 (⟨some 45, .nilCheck (.tmp 44), none⟩, []),
 (⟨some 46, .fieldAddr 0 (.tmp 45), none⟩, []),
 (⟨some 47, .load1 (.tmp 46), none⟩, []),
 (⟨some 48, .move (.tmp 0), none⟩, []),
 (⟨some 49, .nilCheck (.tmp 48), none⟩, []),
 (⟨some 50, .fieldAddr 1 (.tmp 49), none⟩, []),
 (⟨some 51, .load1 (.tmp 50), none⟩, []),
 (⟨some 52, .loadN 2 (.tmp 9), none⟩, []),
 (⟨some 53, .move (.tmp 2), none⟩, []),
 (⟨some 54, .move (.tmp 2), none⟩, []),
 (⟨some 55, .mkMap, none⟩, []),
 (⟨some 56, .build [.int .i64 0, .int .i64 0, .int .i64 0, .int .i64 0, .int .i64 0, .int .i64 0, .int .i64 0, .bool false, .bool false, .bool false, .bool false, .bool false, .bool false, .bool false, .bool false, .map none] [((0, 1), .tmp 47), ((1, 1), .tmp 51), ((2, 2), .tmp 52), ((4, 1), .const (.int .i64 1)), ((5, 1), .tmp 53), ((6, 1), .tmp 54), ((15, 1), .tmp 55)], none⟩, []),
 (⟨some 57, .nilCheck (.tmp 43), none⟩, []),
 (⟨none, .store 16 (.tmp 57) (.tmp 56), none⟩, [])])
 (.seq (.ops [⟨some 58, .loadN 2 (.tmp 9), none⟩,
 ⟨none, .store 2 (.tmp 6) (.tmp 58), none⟩,
 ⟨some 7, .move (.const (.int .i64 0)), none⟩])
 (.ret)))))))⟩
/-- (*hurdle/proposer.Proposer).count -/
def c_proposer_Proposer_count (F : Nat → FuncId) (Ty : Nat → TypeId) : IFunc := ⟨68, [],
 .seq (.ops [⟨some 3, .box (.tmp 1), none⟩])
 (.seq (.seq (.draw [(⟨some 6, .fieldAddr 0 (.tmp 3), none⟩, []),
 (⟨some 7, .load1 (.tmp 6), none⟩, []),
 (⟨some 8, .move (.tmp 0), none⟩, []),
 (⟨some 9, .nilCheck (.tmp 8), none⟩, []),
 (⟨some 10, .fieldAddr 5 (.tmp 9), none⟩, []),
 (⟨some 11, .load1 (.tmp 10), none⟩, []),
 (⟨some 12, .bin .lss (.tmp 7) (.tmp 11), none⟩, []),
 (⟨some 13, .move (.tmp 12), none⟩, []),
 (⟨some 14, .fieldAddr 0 (.tmp 3), some (13, false)⟩, []),
 (⟨some 15, .load1 (.tmp 14), some (13, false)⟩, []),
 (⟨some 16, .bin .geq (.tmp 15) (.const (.int .i64 1024)), some (13, false)⟩, []),
 (⟨some 17, .pick (.tmp 13) (.const (.bool true)) (.tmp 16), none⟩, []),
 (⟨some 18, .move (.tmp 17), none⟩, []),
 (⟨some 19, .fieldAddr 1 (.tmp 3), some (18, false)⟩, []),
 (⟨some 20, .loadN 2 (.tmp 19), some (18, false)⟩, []),
 (⟨some 21, .call (F 5) [.tmp 20], some (18, false)⟩, []),
 (⟨some 22, .un .not (.tmp 21), some (18, false)⟩, []),
 (⟨some 23, .pick (.tmp 18) (.const (.bool true)) (.tmp 22), none⟩, []),
 (⟨some 24, .move (.tmp 23), none⟩, []),
 (⟨some 25, .fieldAddr 3 (.tmp 3), some (24, false)⟩, []),
 (⟨some 26, .load1 (.tmp 25), some (24, false)⟩, []),
 (⟨some 27, .strLen (.tmp 26), some (24, false)⟩, []),
 (⟨some 28, .bin .gtr (.tmp 27) (.const (.int .i64 4096)), some (24, false)⟩, []),
 (⟨some 29, .pick (.tmp 24) (.const (.bool true)) (.tmp 28), none⟩, [])])
 (.cond (.tmp 29)
 (.ret)
 (.skip)))
 (.seq (.draw [(⟨some 30, .move (.tmp 0), none⟩, []),
 (⟨some 31, .move (.tmp 0), none⟩, []),
 (⟨some 32, .nilCheck (.tmp 31), none⟩, []),
 (⟨some 33, .fieldAddr 6 (.tmp 32), none⟩, []),
 (⟨some 34, .load1 (.tmp 33), none⟩, []),
 (⟨some 35, .fieldAddr 0 (.tmp 3), none⟩, []),
 (⟨some 36, .load1 (.tmp 35), none⟩, []),
 (⟨some 37, .bin .add (.tmp 36) (.const (.int .i64 1)), none⟩, []),
 (⟨some 38, .mxn true (.tmp 34) (.tmp 37), none⟩, []),
 (⟨some 39, .nilCheck (.tmp 30), none⟩, []),
 (⟨some 40, .fieldAddr 6 (.tmp 39), none⟩, []),
 (⟨none, .store 1 (.tmp 40) (.tmp 38), none⟩, [])])
 (.seq (.draw [(⟨some 42, .move (.tmp 0), none⟩, []),
 (⟨some 43, .nilCheck (.tmp 42), none⟩, []),
 (⟨some 44, .fieldAddr 15 (.tmp 43), none⟩, []),
 (⟨some 45, .load1 (.tmp 44), none⟩, []),
 (⟨some 46, .fieldAddr 0 (.tmp 3), none⟩, []),
 (⟨some 47, .load1 (.tmp 46), none⟩, []),
 (⟨some 48, .lookup (Ty 2) (.agg #[.int .i64 0, .int .i64 0, .int .i64 0, .string ⟨#[]⟩]) true (.tmp 45) (.tmp 47), none⟩, []),
 (⟨some 41, .move (.tmp 48), none⟩, []),
 (⟨some 49, .extract (.tmp 41) 0, none⟩, []),
 (⟨some 50, .extract (.tmp 41) 1, none⟩, []),
 (⟨some 4, .alloc [.int .i64 0, .int .i64 0, .int .i64 0, .string ⟨#[]⟩], none⟩, []),
 (⟨none, .store 4 (.tmp 4) (.tmp 49), none⟩, []),
 (⟨some 5, .move (.tmp 50), none⟩, [])])
 (.seq (.ops [⟨some 51, .move (.tmp 5), none⟩,
 ⟨some 52, .un .not (.tmp 51), none⟩,
 ⟨some 53, .move (.tmp 52), none⟩,
 ⟨some 54, .fieldAddr 1 (.tmp 3), some (53, false)⟩,
 ⟨some 55, .loadN 2 (.tmp 54), some (53, false)⟩,
 ⟨some 56, .fieldAddr 1 (.tmp 4), some (53, false)⟩,
 ⟨some 57, .loadN 2 (.tmp 56), some (53, false)⟩,
 ⟨some 58, .call (F 4) [.tmp 55, .tmp 57], some (53, false)⟩,
 ⟨some 59, .bin .gtr (.tmp 58) (.const (.int .i64 0)), some (53, false)⟩,
 ⟨some 60, .pick (.tmp 53) (.const (.bool true)) (.tmp 59), none⟩])
 (.cond (.tmp 60)
 (.draw [(⟨some 61, .move (.tmp 0), none⟩, []),
 (⟨some 62, .nilCheck (.tmp 61), none⟩, []),
 (⟨some 63, .fieldAddr 15 (.tmp 62), none⟩, []),
 (⟨some 64, .load1 (.tmp 63), none⟩, []),
 (⟨some 65, .fieldAddr 0 (.tmp 3), none⟩, []),
 (⟨some 66, .load1 (.tmp 65), none⟩, []),
 (⟨some 67, .loadN 4 (.tmp 3), none⟩, []),
 (⟨none, .mapUpdate (Ty 2) (.tmp 64) (.tmp 66) (.tmp 67), none⟩, [])])
 (.skip))))))⟩
/-- (*hurdle/proposer.Proposer).Promise -/
def c_proposer_Proposer_Promise (F : Nat → FuncId) (Ty : Nat → TypeId) : IFunc := ⟨87, [.tmp 8],
 .seq (.ops [⟨some 6, .box (.tmp 2), none⟩,
 ⟨some 8, .move (.const (.bool false)), none⟩])
 (.seq (.seq (.draw [(⟨some 14, .move (.tmp 0), none⟩, []),
 (⟨some 15, .eqNil 0 false (.tmp 14), none⟩, []),
 (⟨some 16, .move (.tmp 15), none⟩, []),
 (⟨some 17, .move (.tmp 0), some (16, false)⟩, []),
 (⟨some 18, .nilCheck (.tmp 17), some (16, false)⟩, []),
 (⟨some 19, .fieldAddr 4 (.tmp 18), some (16, false)⟩, []),
 (⟨some 20, .load1 (.tmp 19), some (16, false)⟩, []),
 (⟨some 21, .bin .neq (.tmp 20) (.const (.int .i64 1)), some (16, false)⟩, []),
 (⟨some 22, .pick (.tmp 16) (.const (.bool true)) (.tmp 21), none⟩, []),
 (⟨some 23, .move (.tmp 22), none⟩, []),
 (⟨some 24, .move (.tmp 1), some (23, false)⟩, []),
 (⟨some 25, .bin .lss (.tmp 24) (.const (.int .i64 0)), some (23, false)⟩, []),
 (⟨some 26, .pick (.tmp 23) (.const (.bool true)) (.tmp 25), none⟩, []),
 (⟨some 27, .move (.tmp 26), none⟩, []),
 (⟨some 28, .move (.tmp 1), some (27, false)⟩, []),
 (⟨some 29, .move (.tmp 0), some (27, false)⟩, []),
 (⟨some 30, .nilCheck (.tmp 29), some (27, false)⟩, []),
 (⟨some 31, .fieldAddr 0 (.tmp 30), some (27, false)⟩, []),
 (⟨some 32, .load1 (.tmp 31), some (27, false)⟩, []),
 (⟨some 33, .bin .geq (.tmp 28) (.tmp 32), some (27, false)⟩, []),
 (⟨some 34, .pick (.tmp 27) (.const (.bool true)) (.tmp 33), none⟩, []),
 (⟨some 35, .move (.tmp 34), none⟩, []),
 (⟨some 36, .loadN 2 (.tmp 6), some (35, false)⟩, []),
 (⟨some 37, .move (.tmp 0), some (35, false)⟩, []),
 (⟨some 38, .nilCheck (.tmp 37), some (35, false)⟩, []),
 (⟨some 39, .fieldAddr 2 (.tmp 38), some (35, false)⟩, []),
 (⟨some 40, .loadN 2 (.tmp 39), some (35, false)⟩, []),
 (⟨some 41, .eqv true [.i .i64, .i .i64] (.tmp 36) (.tmp 40), some (35, false)⟩, []),
 (⟨some 42, .pick (.tmp 35) (.const (.bool true)) (.tmp 41), none⟩, []),
 (⟨some 43, .move (.tmp 42), none⟩, []),
 (⟨some 44, .move (.tmp 0), some (43, false)⟩, []),
 (⟨some 45, .move (.tmp 1), some (43, false)⟩, []),
 (⟨some 46, .nilCheck (.tmp 44), some (43, false)⟩, []),
 (⟨some 47, .fieldAddr 8 (.tmp 46), some (43, false)⟩, []),
 (⟨some 48, .idxArr 7 1 (.tmp 47) (.tmp 45), some (43, false)⟩, []),
 (⟨some 49, .load1 (.tmp 48), some (43, false)⟩, []),
 (⟨some 50, .pick (.tmp 43) (.const (.bool true)) (.tmp 49), none⟩, [])])
 (.cond (.tmp 50)
 (.seq (.ops [⟨some 8, .move (.const (.bool false)), none⟩])
 (.ret))
 (.skip)))
 (.seq (.ops [⟨some 51, .move (.tmp 0), none⟩,
 ⟨some 52, .move (.tmp 1), none⟩,
 ⟨some 53, .nilCheck (.tmp 51), none⟩,
 ⟨some 54, .fieldAddr 8 (.tmp 53), none⟩,
 ⟨some 55, .idxArr 7 1 (.tmp 54) (.tmp 52), none⟩,
 ⟨none, .store 1 (.tmp 55) (.const (.bool true)), none⟩])
 (.seq (.seq (.ops [⟨some 56, .move (.tmp 3), none⟩,
 ⟨some 57, .lenSl (.tmp 56), none⟩,
 ⟨some 58, .move (.const (.int .i64 0)), none⟩])
 (.block 0 (.loop (.seq (.ops [⟨some 59, .bin .lss (.tmp 58) (.tmp 57), none⟩])
 (.seq (.cond (.tmp 59)
 (.skip)
 (.exit 0))
 (.seq (.block 1 (.seq (.ops [⟨some 60, .idxSl 4 (.tmp 56) (.tmp 58), none⟩,
 ⟨some 61, .loadN 4 (.tmp 60), none⟩,
 ⟨some 10, .alloc [.int .i64 0, .int .i64 0, .int .i64 0, .string ⟨#[]⟩], none⟩,
 ⟨none, .store 4 (.tmp 10) (.tmp 61), none⟩])
 (.ops [⟨some 62, .move (.tmp 0), none⟩,
 ⟨some 63, .loadN 4 (.tmp 10), none⟩,
 ⟨some 64, .call (F 277) [.tmp 62, .tmp 63], none⟩])))
 (.ops [⟨some 65, .bin .add (.tmp 58) (.const (.int .i64 1)), none⟩,
 ⟨some 58, .move (.tmp 65), none⟩])))))))
 (.seq (.ops [⟨some 11, .move (.const (.int .i64 0)), none⟩])
 (.seq (.seq (.ops [⟨some 66, .move (.tmp 0), none⟩,
 ⟨some 67, .nilCheck (.tmp 66), none⟩,
 ⟨some 68, .fieldAddr 8 (.tmp 67), none⟩,
 ⟨some 69, .loadN 7 (.tmp 68), none⟩,
 ⟨some 70, .move (.const (.int .i64 0)), none⟩])
 (.block 2 (.loop (.seq (.ops [⟨some 71, .bin .lss (.tmp 70) (.const (.int .i64 7)), none⟩])
 (.seq (.cond (.tmp 71)
 (.skip)
 (.exit 2))
 (.seq (.block 3 (.seq (.ops [⟨some 72, .idxAgg1 7 (.tmp 69) (.tmp 70), none⟩,
 ⟨some 13, .move (.tmp 72), none⟩])
 (.seq (.ops [⟨some 73, .move (.tmp 13), none⟩])
 (.cond (.tmp 73)
 (.ops [⟨some 74, .move (.tmp 11), none⟩,
 ⟨some 75, .bin .add (.tmp 74) (.const (.int .i64 1)), none⟩,
 ⟨some 11, .move (.tmp 75), none⟩])
 (.skip)))))
 (.ops [⟨some 76, .bin .add (.tmp 70) (.const (.int .i64 1)), none⟩,
 ⟨some 70, .move (.tmp 76), none⟩])))))))
 (.seq (.seq (.ops [⟨some 77, .move (.tmp 11), none⟩,
 ⟨some 78, .move (.tmp 0), none⟩,
 ⟨some 79, .nilCheck (.tmp 78), none⟩,
 ⟨some 80, .fieldAddr 0 (.tmp 79), none⟩,
 ⟨some 81, .load1 (.tmp 80), none⟩,
 ⟨some 82, .call (F 7) [.tmp 81], none⟩,
 ⟨some 83, .bin .lss (.tmp 77) (.tmp 82), none⟩])
 (.cond (.tmp 83)
 (.seq (.ops [⟨some 8, .move (.const (.bool false)), none⟩])
 (.ret))
 (.skip)))
 (.seq (.ops [⟨some 84, .move (.tmp 0), none⟩,
 ⟨some 85, .nilCheck (.tmp 84), none⟩,
 ⟨some 86, .fieldAddr 4 (.tmp 85), none⟩,
 ⟨none, .store 1 (.tmp 86) (.const (.int .i64 2)), none⟩])
 (.seq (.ops [⟨some 8, .move (.const (.bool true)), none⟩])
 (.ret)))))))))⟩
/-- (*hurdle/proposer.Proposer).Leads -/
def c_proposer_Proposer_Leads (F : Nat → FuncId) (Ty : Nat → TypeId) : IFunc := ⟨12, [.tmp 2],
 .seq (.ops [⟨some 2, .move (.const (.bool false)), none⟩])
 (.seq (.ops [⟨some 3, .move (.tmp 0), none⟩,
 ⟨some 4, .eqNil 0 true (.tmp 3), none⟩,
 ⟨some 5, .move (.tmp 4), none⟩,
 ⟨some 6, .move (.tmp 0), some (5, true)⟩,
 ⟨some 7, .nilCheck (.tmp 6), some (5, true)⟩,
 ⟨some 8, .fieldAddr 4 (.tmp 7), some (5, true)⟩,
 ⟨some 9, .load1 (.tmp 8), some (5, true)⟩,
 ⟨some 10, .bin .eql (.tmp 9) (.const (.int .i64 2)), some (5, true)⟩,
 ⟨some 11, .pick (.tmp 5) (.tmp 10) (.const (.bool false)), none⟩,
 ⟨some 2, .move (.tmp 11), none⟩])
 (.ret))⟩
/-- (*hurdle/proposer.Proposer).vote -/
def c_proposer_Proposer_vote (F : Nat → FuncId) (Ty : Nat → TypeId) : IFunc := ⟨14, [.cellN 6 4],
 .seq (.ops [⟨some 6, .alloc [.int .i64 0, .int .i64 0, .int .i64 0, .string ⟨#[]⟩], none⟩])
 (.seq (.ops [⟨some 7, .move (.tmp 1), none⟩,
 ⟨some 8, .move (.tmp 0), none⟩,
 ⟨some 9, .nilCheck (.tmp 8), none⟩,
 ⟨some 10, .fieldAddr 2 (.tmp 9), none⟩,
 ⟨some 11, .loadN 2 (.tmp 10), none⟩,
 ⟨some 12, .move (.tmp 2), none⟩,
 ⟨some 13, .build [.int .i64 0, .int .i64 0, .int .i64 0, .string ⟨#[]⟩] [((0, 1), .tmp 7), ((1, 2), .tmp 11), ((3, 1), .tmp 12)], none⟩,
 ⟨none, .store 4 (.tmp 6) (.tmp 13), none⟩])
 (.ret))⟩
/-- (*hurdle/proposer.Proposer).Fill -/
def c_proposer_Proposer_Fill (F : Nat → FuncId) (Ty : Nat → TypeId) : IFunc := ⟨59, [.tmp 2],
 .seq (.ops [⟨some 2, .move (.const (.slice none 0 0)), none⟩])
 (.seq (.seq (.ops [⟨some 7, .move (.tmp 0), none⟩,
 ⟨some 8, .call (F 279) [.tmp 7], none⟩,
 ⟨some 9, .un .not (.tmp 8), none⟩,
 ⟨some 10, .move (.tmp 9), none⟩,
 ⟨some 11, .move (.tmp 0), some (10, false)⟩,
 ⟨some 12, .nilCheck (.tmp 11), some (10, false)⟩,
 ⟨some 13, .fieldAddr 7 (.tmp 12), some (10, false)⟩,
 ⟨some 14, .load1 (.tmp 13), some (10, false)⟩,
 ⟨some 15, .pick (.tmp 10) (.const (.bool true)) (.tmp 14), none⟩])
 (.cond (.tmp 15)
 (.seq (.ops [⟨some 2, .move (.const (.slice none 0 0)), none⟩])
 (.ret))
 (.skip)))
 (.seq (.ops [⟨some 16, .move (.tmp 0), none⟩,
 ⟨some 17, .nilCheck (.tmp 16), none⟩,
 ⟨some 18, .fieldAddr 7 (.tmp 17), none⟩,
 ⟨none, .store 1 (.tmp 18) (.const (.bool true)), none⟩])
 (.seq (.ops [⟨some 19, .move (.tmp 0), none⟩,
 ⟨some 20, .nilCheck (.tmp 19), none⟩,
 ⟨some 21, .fieldAddr 5 (.tmp 20), none⟩,
 ⟨some 22, .load1 (.tmp 21), none⟩,
 ⟨some 3, .move (.tmp 22), none⟩])
 (.seq (.seq (.ops [⟨some 23, .move (.tmp 0), none⟩,
 ⟨some 24, .nilCheck (.tmp 23), none⟩,
 ⟨some 25, .fieldAddr 15 (.tmp 24), none⟩,
 ⟨some 26, .load1 (.tmp 25), none⟩,
 ⟨some 27, .rangeMap (.tmp 26), none⟩])
 (.block 0 (.loop (.seq (.ops [⟨some 28, .nextMap (.tmp 27), none⟩,
 ⟨some 29, .extract (.tmp 28) 0, none⟩])
 (.seq (.cond (.tmp 29)
 (.skip)
 (.exit 0))
 (.block 1 (.seq (.ops [⟨some 30, .entryMap (.tmp 27), none⟩,
 ⟨some 31, .extract (.tmp 30) 0, none⟩,
 ⟨some 4, .move (.tmp 31), none⟩])
 (.ops [⟨some 32, .move (.tmp 3), none⟩,
 ⟨some 33, .move (.tmp 4), none⟩,
 ⟨some 34, .bin .add (.tmp 33) (.const (.int .i64 1)), none⟩,
 ⟨some 35, .mxn true (.tmp 32) (.tmp 34), none⟩,
 ⟨some 3, .move (.tmp 35), none⟩]))))))))
 (.seq (.ops [⟨some 5, .move (.const (.slice none 0 0)), none⟩])
 (.seq (.seq (.ops [⟨some 36, .move (.tmp 0), none⟩,
 ⟨some 37, .nilCheck (.tmp 36), none⟩,
 ⟨some 38, .fieldAddr 5 (.tmp 37), none⟩,
 ⟨some 39, .load1 (.tmp 38), none⟩,
 ⟨some 6, .move (.tmp 39), none⟩])
 (.block 2 (.loop (.seq (.seq (.ops [⟨some 40, .move (.tmp 6), none⟩,
 ⟨some 41, .move (.tmp 3), none⟩,
 ⟨some 42, .bin .lss (.tmp 40) (.tmp 41), none⟩])
 (.cond (.tmp 42)
 (.skip)
 (.exit 2)))
 (.seq (.block 3 (.ops [⟨some 45, .move (.tmp 5), none⟩,
 ⟨some 46, .move (.tmp 0), none⟩,
 ⟨some 47, .move (.tmp 6), none⟩,
 ⟨some 48, .move (.tmp 0), none⟩,
 ⟨some 49, .nilCheck (.tmp 48), none⟩,
 ⟨some 50, .fieldAddr 15 (.tmp 49), none⟩,
 ⟨some 51, .load1 (.tmp 50), none⟩,
 ⟨some 52, .move (.tmp 6), none⟩,
 ⟨some 53, .lookup (Ty 2) (.agg #[.int .i64 0, .int .i64 0, .int .i64 0, .string ⟨#[]⟩]) false (.tmp 51) (.tmp 52), none⟩,
 ⟨some 54, .part1 3 (.tmp 53), none⟩,
 ⟨some 55, .call (F 280) [.tmp 46, .tmp 47, .tmp 54], none⟩,
 ⟨some 56, .buildSlice 1 [.int .i64 0, .int .i64 0, .int .i64 0, .string ⟨#[]⟩] [((0, 4), .tmp 55)], none⟩,
 ⟨some 57, .append 4 40 (.tmp 45) (.tmp 56), none⟩,
 ⟨some 5, .move (.tmp 57), none⟩]))
 (.ops [⟨some 43, .move (.tmp 6), none⟩,
 ⟨some 44, .bin .add (.tmp 43) (.const (.int .i64 1)), none⟩,
 ⟨some 6, .move (.tmp 44), none⟩]))))))
 (.seq (.ops [⟨some 58, .move (.tmp 5), none⟩,
 ⟨some 2, .move (.tmp 58), none⟩])
 (.ret))))))))⟩
/-- (*hurdle/proposer.Proposer).Propose -/
def c_proposer_Proposer_Propose (F : Nat → FuncId) (Ty : Nat → TypeId) : IFunc := ⟨44, [.cellN 4 4, .tmp 5],
 .seq (.ops [⟨some 4, .alloc [.int .i64 0, .int .i64 0, .int .i64 0, .string ⟨#[]⟩], none⟩,
 ⟨some 5, .move (.const (.int .i64 0)), none⟩])
 (.seq (.block 0 (.seq (.ops [⟨some 7, .move (.tmp 0), none⟩,
 ⟨some 8, .eqNil 0 false (.tmp 7), none⟩,
 ⟨some 6, .move (.tmp 8), none⟩])
 (.cond (.tmp 6)
 (.seq (.ops [⟨some 9, .build [.int .i64 0, .int .i64 0, .int .i64 0, .string ⟨#[]⟩] [], none⟩,
 ⟨none, .store 4 (.tmp 4) (.tmp 9), none⟩,
 ⟨some 5, .move (.const (.int .i64 1)), none⟩])
 (.ret))
 (.seq (.ops [⟨some 11, .move (.tmp 1), none⟩,
 ⟨some 12, .strLen (.tmp 11), none⟩,
 ⟨some 13, .bin .gtr (.tmp 12) (.const (.int .i64 4096)), none⟩,
 ⟨some 10, .move (.tmp 13), none⟩])
 (.cond (.tmp 10)
 (.seq (.ops [⟨some 14, .build [.int .i64 0, .int .i64 0, .int .i64 0, .string ⟨#[]⟩] [], none⟩,
 ⟨none, .store 4 (.tmp 4) (.tmp 14), none⟩,
 ⟨some 5, .move (.const (.int .i64 2)), none⟩])
 (.ret))
 (.seq (.ops [⟨some 16, .move (.tmp 0), none⟩,
 ⟨some 17, .nilCheck (.tmp 16), none⟩,
 ⟨some 18, .fieldAddr 6 (.tmp 17), none⟩,
 ⟨some 19, .load1 (.tmp 18), none⟩,
 ⟨some 20, .bin .geq (.tmp 19) (.const (.int .i64 1024)), none⟩,
 ⟨some 15, .move (.tmp 20), none⟩])
 (.cond (.tmp 15)
 (.seq (.ops [⟨some 21, .build [.int .i64 0, .int .i64 0, .int .i64 0, .string ⟨#[]⟩] [], none⟩,
 ⟨none, .store 4 (.tmp 4) (.tmp 21), none⟩,
 ⟨some 5, .move (.const (.int .i64 5)), none⟩])
 (.ret))
 (.seq (.ops [⟨some 23, .move (.tmp 0), none⟩,
 ⟨some 24, .nilCheck (.tmp 23), none⟩,
 ⟨some 25, .fieldAddr 4 (.tmp 24), none⟩,
 ⟨some 26, .load1 (.tmp 25), none⟩,
 ⟨some 27, .bin .neq (.tmp 26) (.const (.int .i64 2)), none⟩,
 ⟨some 22, .move (.tmp 27), none⟩])
 (.cond (.tmp 22)
 (.seq (.ops [⟨some 28, .build [.int .i64 0, .int .i64 0, .int .i64 0, .string ⟨#[]⟩] [], none⟩,
 ⟨none, .store 4 (.tmp 4) (.tmp 28), none⟩,
 ⟨some 5, .move (.const (.int .i64 16)), none⟩])
 (.ret))
 (.skip))))))))))
 (.seq (.ops [⟨some 29, .move (.tmp 0), none⟩,
 ⟨some 30, .nilCheck (.tmp 29), none⟩,
 ⟨some 31, .fieldAddr 6 (.tmp 30), none⟩,
 ⟨some 32, .load1 (.tmp 31), none⟩,
 ⟨some 33, .bin .add (.tmp 32) (.const (.int .i64 1)), none⟩,
 ⟨some 34, .nilCheck (.tmp 29), none⟩,
 ⟨some 35, .fieldAddr 6 (.tmp 34), none⟩,
 ⟨none, .store 1 (.tmp 35) (.tmp 33), none⟩])
 (.seq (.ops [⟨some 36, .move (.tmp 0), none⟩,
 ⟨some 37, .move (.tmp 0), none⟩,
 ⟨some 38, .nilCheck (.tmp 37), none⟩,
 ⟨some 39, .fieldAddr 6 (.tmp 38), none⟩,
 ⟨some 40, .load1 (.tmp 39), none⟩,
 ⟨some 41, .bin .sub (.tmp 40) (.const (.int .i64 1)), none⟩,
 ⟨some 42, .move (.tmp 1), none⟩,
 ⟨some 43, .call (F 280) [.tmp 36, .tmp 41, .tmp 42], none⟩,
 ⟨none, .store 4 (.tmp 4) (.tmp 43), none⟩,
 ⟨some 5, .move (.const (.int .i64 0)), none⟩])
 (.ret))))⟩
/-- (*hurdle/proposer.Proposer).Step -/
def c_proposer_Proposer_Step (F : Nat → FuncId) (Ty : Nat → TypeId) : IFunc := ⟨28, [.tmp 4],
 .seq (.ops [⟨some 3, .box (.tmp 1), none⟩,
 ⟨some 4, .move (.const (.bool false)), none⟩])
 (.seq (.seq (.draw [(⟨some 5, .move (.tmp 0), none⟩, []),
 (⟨some 6, .eqNil 0 false (.tmp 5), none⟩, []),
 (⟨some 7, .move (.tmp 6), none⟩, []),
 (⟨some 8, .loadN 2 (.tmp 3), some (7, false)⟩, []),
 (⟨some 9, .call (F 5) [.tmp 8], some (7, false)⟩, []),
 (⟨some 10, .un .not (.tmp 9), some (7, false)⟩, []),
 (⟨some 11, .pick (.tmp 7) (.const (.bool true)) (.tmp 10), none⟩, []),
 (⟨some 12, .move (.tmp 11), none⟩, []),
 (⟨some 13, .loadN 2 (.tmp 3), some (12, false)⟩, []),
 (⟨some 14, .move (.tmp 0), some (12, false)⟩, []),
 (⟨some 15, .nilCheck (.tmp 14), some (12, false)⟩, []),
 (⟨some 16, .fieldAddr 2 (.tmp 15), some (12, false)⟩, []),
 (⟨some 17, .loadN 2 (.tmp 16), some (12, false)⟩, []),
 (⟨some 18, .call (F 4) [.tmp 13, .tmp 17], some (12, false)⟩, []),
 (⟨some 19, .bin .leq (.tmp 18) (.const (.int .i64 0)), some (12, false)⟩, []),
 (⟨some 20, .pick (.tmp 12) (.const (.bool true)) (.tmp 19), none⟩, [])])
 (.cond (.tmp 20)
 (.seq (.ops [⟨some 4, .move (.const (.bool false)), none⟩])
 (.ret))
 (.skip)))
 (.seq (.ops [⟨some 21, .move (.tmp 0), none⟩,
 ⟨some 22, .move (.tmp 0), none⟩,
 ⟨some 23, .loadN 2 (.tmp 3), none⟩,
 ⟨some 24, .nilCheck (.tmp 21), none⟩,
 ⟨some 25, .fieldAddr 2 (.tmp 24), none⟩,
 ⟨none, .store 2 (.tmp 25) (.tmp 23), none⟩,
 ⟨some 26, .nilCheck (.tmp 22), none⟩,
 ⟨some 27, .fieldAddr 4 (.tmp 26), none⟩,
 ⟨none, .store 1 (.tmp 27) (.const (.int .i64 0)), none⟩])
 (.seq (.ops [⟨some 4, .move (.const (.bool true)), none⟩])
 (.ret))))⟩
/-- A context has these functions. -/
structure HasProp (c : Ctx) : Prop where
 proposer_New : c.IP (c.F 275) = some (c_proposer_New c.F c.Ty)
 proposer_Proposer_Lead : c.IP (c.F 276) = some (c_proposer_Proposer_Lead c.F c.Ty)
 proposer_Proposer_count : c.IP (c.F 277) = some (c_proposer_Proposer_count c.F c.Ty)
 proposer_Proposer_Promise : c.IP (c.F 278) = some (c_proposer_Proposer_Promise c.F c.Ty)
 proposer_Proposer_Leads : c.IP (c.F 279) = some (c_proposer_Proposer_Leads c.F c.Ty)
 proposer_Proposer_vote : c.IP (c.F 280) = some (c_proposer_Proposer_vote c.F c.Ty)
 proposer_Proposer_Fill : c.IP (c.F 281) = some (c_proposer_Proposer_Fill c.F c.Ty)
 proposer_Proposer_Propose : c.IP (c.F 282) = some (c_proposer_Proposer_Propose c.F c.Ty)
 proposer_Proposer_Step : c.IP (c.F 283) = some (c_proposer_Proposer_Step c.F c.Ty)

end Go.Proofs.YtpbbjfighohokaaI
namespace Go.Proofs.YtpbbjfighohokaaI
attribute [local simp] J0 J1 J2 J3 J4 J5 J6 J7 J8 J9 Ja Jb Jc Jd Je Jf Jg Jh Ji Jj Jk Jl Jm Jn Jo Jp Jq Jr Js Jt Ju Jv Jw Jx Jy Jz JA JB JC JD JE JF JG JH JI JJ JK JL JM JN JO JP JQ JR JS stillI IOp.kind JT JU JV JW JX JY JZ Y0 Y1 Y2 Y3 Y4 Y5 Y6 Y7 Y8 Y9 Ya Yb Yc Yd Ye Yf Yg Yh Yi Yj Yk Yl Ym Yn Yo Yp Yq ial Yr Ys Yt Yu Yv Yw Yx Yy ires iresL ires1 Yz YA YB YC YD YE bin2 YF YG YH YI YJ YK YL YM YN YO YP YQ YR YS YT YU un1 shOk eqL eq1 fillL putAt IHeap.load1 IHeap.loadL IHeap.storeL YV YW YX YY YZ B0 B1 B2 B3 B4 B5 B6 B7 B8 B9 Ba Bb Bc Bd Be Bf Bg Bh Bi Bj Bk Bl Bm Bn Bo Bp
set_option linter.unusedSimpArgs false
set_option linter.unusedVariables false
open Go

structure Pro where
  n : Int
  me : Int
  ba : Int
  bn : Int
  does : Int
  fr : Int
  next : Int
  filled : Bool
  who : Nat → Bool
  best : Int → Option VoteD
def who7 (w : Nat → Bool) : List Value := [.bool (w 0), .bool (w 1), .bool (w 2), .bool (w 3), .bool (w 4), .bool (w 5), .bool (w 6)]
def cellsP (P : Pro) (mv : Value) : List Value :=
  .int .i64 P.n :: .int .i64 P.me :: .int .i64 P.ba :: .int .i64 P.bn :: .int .i64 P.does :: .int .i64 P.fr :: .int .i64 P.next :: .bool P.filled :: (who7 P.who ++ [mv])
def setW (w : Nat → Bool) (i : Nat) : Nat → Bool := fun j => if j = i then true else w j

def Pro.setBal (P : Pro) (x y : Int) : Pro := { P with ba := x, bn := y }
def Pro.setDoes (P : Pro) (x : Int) : Pro := { P with does := x }
def Pro.setNext (P : Pro) (x : Int) : Pro := { P with next := x }
def Pro.setFilled (P : Pro) (b : Bool) : Pro := { P with filled := b }
def Pro.setBest (P : Pro) (v : VoteD) : Pro := { P with best := fun s => if v.slot = s then some v else P.best s }
def Pro.setWho (P : Pro) (i : Nat) : Pro := { P with who := setW P.who i }
theorem who_at (P : Pro) (mv : Value) (i : Nat) (hi : i < 7) : (cellsP P mv)[8 + i]? = some (.bool (P.who i)) := by
  match i, hi with
  | 0, _ => rfl
  | 1, _ => rfl
  | 2, _ => rfl
  | 3, _ => rfl
  | 4, _ => rfl
  | 5, _ => rfl
  | 6, _ => rfl
theorem who_put (P : Pro) (mv : Value) (i : Nat) (hi : i < 7) : putAt (cellsP P mv) (8 + i) [.bool true] = cellsP (P.setWho i) mv := by
  match i, hi with
  | 0, _ => rfl
  | 1, _ => rfl
  | 2, _ => rfl
  | 3, _ => rfl
  | 4, _ => rfl
  | 5, _ => rfl
  | 6, _ => rfl
theorem who_seven (P : Pro) (mv : Value) : ((cellsP P mv).drop 8).take 7 = who7 P.who := rfl
theorem who_get (w : Nat → Bool) (i : Nat) (hi : i < 7) : (who7 w)[i]? = some (.bool (w i)) := by
  match i, hi with
  | 0, _ => rfl
  | 1, _ => rfl
  | 2, _ => rfl
  | 3, _ => rfl
  | 4, _ => rfl
  | 5, _ => rfl
  | 6, _ => rfl
theorem cellsP_len (P : Pro) (mv : Value) : (cellsP P mv).length = 16 := rfl

section
variable (P : Pro) (mv : Value) (x : Int) (y : Int) (b : Bool)
theorem cP0 : (cellsP P mv)[0]? = some (.int .i64 P.n) := rfl
theorem cQ0 {h : 0 < (cellsP P mv).length} : (cellsP P mv)[0]'h = .int .i64 P.n := rfl
theorem cP1 : (cellsP P mv)[1]? = some (.int .i64 P.me) := rfl
theorem cQ1 {h : 1 < (cellsP P mv).length} : (cellsP P mv)[1]'h = .int .i64 P.me := rfl
theorem cP2 : List.take 2 (List.drop 2 (cellsP P mv)) = [.int .i64 P.ba, .int .i64 P.bn] := rfl
theorem cP4 : (cellsP P mv)[4]? = some (.int .i64 P.does) := rfl
theorem cQ4 {h : 4 < (cellsP P mv).length} : (cellsP P mv)[4]'h = .int .i64 P.does := rfl
theorem cP5 : (cellsP P mv)[5]? = some (.int .i64 P.fr) := rfl
theorem cQ5 {h : 5 < (cellsP P mv).length} : (cellsP P mv)[5]'h = .int .i64 P.fr := rfl
theorem cP6 : (cellsP P mv)[6]? = some (.int .i64 P.next) := rfl
theorem cQ6 {h : 6 < (cellsP P mv).length} : (cellsP P mv)[6]'h = .int .i64 P.next := rfl
theorem cP7 : (cellsP P mv)[7]? = some (.bool P.filled) := rfl
theorem cQ7 {h : 7 < (cellsP P mv).length} : (cellsP P mv)[7]'h = .bool P.filled := rfl
theorem cP15 : (cellsP P mv)[15]? = some (mv) := rfl
theorem cQ15 {h : 15 < (cellsP P mv).length} : (cellsP P mv)[15]'h = mv := rfl
theorem cPlen : (cellsP P mv).length = 16 := rfl
theorem tP2 : List.take 2 (cellsP P mv) ++ Value.int .i64 x :: Value.int .i64 y :: List.drop 4 (cellsP P mv) = cellsP (P.setBal x y) mv := rfl
theorem tP4 : List.take 4 (cellsP P mv) ++ Value.int .i64 x :: List.drop 5 (cellsP P mv) = cellsP (P.setDoes x) mv := rfl
theorem tP6 : List.take 6 (cellsP P mv) ++ Value.int .i64 x :: List.drop 7 (cellsP P mv) = cellsP (P.setNext x) mv := rfl
theorem tP7 : List.take 7 (cellsP P mv) ++ Value.bool b :: List.drop 8 (cellsP P mv) = cellsP (P.setFilled b) mv := rfl
end

/-- How it stands; B: its blocks. -/
structure IsP (B : Nat → Prop) (H : IHeap) (p : Nat) (P : Pro) : Prop where
  lt : ∀ b, B b → b < H.next
  own : B p
  rep : ∃ mv, H.get p = some (.cells (cellsP P mv) false) ∧ ((mv = .map none ∧ P.best = (fun _ => none) ∧ P.does = 0) ∨ ∃ r, mv = .map (some r) ∧ B r ∧ IsMap H r kI vV P.best)
theorem IsP.fr {B C : Nat → Prop} {H H' : IHeap} {p : Nat} {P : Pro} (h : IsP B H p P) (k : Fr C H H') (hd : ∀ b, B b → ¬ C b) : IsP B H' p P := by
  obtain ⟨h1, h2, mv, h3, h4⟩ := h
  have hp := h1 p h2
  refine ⟨fun b hb => Nat.lt_of_lt_of_le (h1 b hb) k.next, h2, mv, (k.get p hp (hd p h2)).trans h3, h4.imp id ?_⟩
  rintro ⟨r, e, hr, hm⟩
  exact ⟨r, e, hr, hm.same k.next (k.get r (h1 r hr) (hd r hr))⟩
theorem IsP.le {B : Nat → Prop} {H H' : IHeap} {p : Nat} {P : Pro} (h : IsP B H p P) (k : H.le H') : IsP B H' p P := h.fr (k.fr fun _ => False) fun _ _ h => h

def Pro.ok (P : Pro) : Prop := quorumI P.n ≠ 0 ∧ 0 ≤ P.me ∧ P.me < P.n ∧ 0 ≤ P.fr ∧ P.fr ≤ P.next ∧ P.next ≤ 1024 ∧ (0 ≤ P.does ∧ P.does ≤ 2) ∧
  ∀ s v, P.best s = some v → v.slot = s ∧ P.fr ≤ s ∧ s < P.next ∧ validB v.a v.n = true ∧ v.val.size ≤ 4096
theorem quorumI_ne {n : Int} (h : quorumI n ≠ 0) : 1 ≤ n ∧ n ≤ 7 ∧ 1 ≤ quorumI n ∧ quorumI n ≤ n := by
  unfold quorumI at h ⊢
  by_cases hc : n < 1 ∨ 7 < n
  · rw [if_pos hc] at h; exact absurd rfl h
  · rw [if_neg hc]
    have h1 : 1 ≤ n := by omega
    have h2 : n ≤ 7 := by omega
    have : n = 1 ∨ n = 2 ∨ n = 3 ∨ n = 4 ∨ n = 5 ∨ n = 6 ∨ n = 7 := by omega
    rcases this with rfl | rfl | rfl | rfl | rfl | rfl | rfl <;> decide

def Pro.new (n me : Int) : Pro := ⟨n, me, 0, 0, 0, 0, 0, false, fun _ => false, fun _ => none⟩
def Pro.lead (P : Pro) (a n fr : Int) : Pro × (Int × Int) × Int :=
  if validB a n = false ∨ fr < 0 ∨ 1024 ≤ fr then (P, (0, 0), 1)
  else if 2147483647 ≤ (maxL [(a, n), (P.ba, P.bn)]).1 then (P, (0, 0), 5)
  else ({ Pro.new P.n P.me with ba := (nextB (maxL [(a, n), (P.ba, P.bn)]).1 P.me).1, bn := (nextB (maxL [(a, n), (P.ba, P.bn)]).1 P.me).2, does := 1, fr := fr, next := fr }, nextB (maxL [(a, n), (P.ba, P.bn)]).1 P.me, 0)
/-- Is a vote counted? -/
def Pro.takes (P : Pro) (v : VoteD) : Bool := decide (P.fr ≤ v.slot) && (decide (v.slot < 1024) && (validB v.a v.n && decide (v.val.size ≤ 4096)))
def better (o : Option VoteD) (v : VoteD) : Bool := match o with
  | none => true
  | some w => decide (0 < cmpB v.a v.n w.a w.n)
def Pro.count (P : Pro) (v : VoteD) : Pro :=
  if P.takes v then (if better (P.best v.slot) v then (P.setNext (if v.slot + 1 > P.next then v.slot + 1 else P.next)).setBest v else P.setNext (if v.slot + 1 > P.next then v.slot + 1 else P.next)) else P
def cntW (w : Nat → Bool) : Nat → Nat
  | 0 => 0
  | k + 1 => cntW w k + if w k then 1 else 0
def Pro.promise (P : Pro) (fr a n : Int) (l : List VoteD) : Pro × Bool :=
  if P.does ≠ 1 ∨ fr < 0 ∨ P.n ≤ fr ∨ ¬ (a = P.ba ∧ n = P.bn) ∨ P.who fr.toNat = true then (P, false)
  else if (cntW (setW P.who fr.toNat) 7 : Int) < quorumI P.n then (l.foldl Pro.count (P.setWho fr.toNat), false)
  else ((l.foldl Pro.count (P.setWho fr.toNat)).setDoes 2, true)
def Pro.propose (P : Pro) (s : ByteArray) : Pro × Int :=
  if 4096 < s.size then (P, 2) else if 1024 ≤ P.next then (P, 5) else if P.does ≠ 2 then (P, 16) else (P.setNext (P.next + 1), 0)
def Pro.step (P : Pro) (a n : Int) : Pro × Bool :=
  if validB a n = false ∨ cmpB a n P.ba P.bn ≤ 0 then (P, false) else ((P.setBal a n).setDoes 0, true)
def IsEnd (P : Pro) (e : Int) : Prop := P.fr ≤ e ∧ (∀ s v, P.best s = some v → s < e) ∧ (e = P.fr ∨ ∃ v, P.best (e - 1) = some v)
theorem IsEnd.uniq {P : Pro} {a b : Int} (h : IsEnd P a) (k : IsEnd P b) : a = b := by
  obtain ⟨h1, h2, h3⟩ := h
  obtain ⟨k1, k2, k3⟩ := k
  rcases h3 with h3 | ⟨v, h3⟩
  · rcases k3 with k3 | ⟨w, k3⟩
    · omega
    · have := h2 _ _ k3; omega
  · have := k2 _ _ h3
    rcases k3 with k3 | ⟨w, k3⟩
    · omega
    · have := h2 _ _ k3; omega
def noS : ByteArray := ⟨#[]⟩
def valOf (o : Option VoteD) : ByteArray := match o with
  | some v => v.val
  | none => noS
def filledL (P : Pro) (s : Int) : Nat → List VoteD
  | 0 => []
  | k + 1 => ⟨s, P.ba, P.bn, valOf (P.best s)⟩ :: filledL P (s + 1) k
/-- What it fills. -/
def Pro.fill (P : Pro) (e : Int) : List VoteD := filledL P P.fr (e - P.fr).toNat

structure ProT (c : Ctx) : Prop where
  key : c.P.underlying (c.Ty 2) = some (.int .i64)

section
variable (c : Ctx) (hA : HasBalA c) (hB : HasBalB c) (hD : HasBalD c) (hc : HasProp c) (hT : ProT c) {H : IHeap} {K : Value → IHeap → Prop} {B : Nat → Prop} {p : Nat} {P : Pro}

include hB hc in
theorem PNew_ok {n me : Int} (h0 : (quorumI n = 0 ∨ me < 0 ∨ n ≤ me) → K (.pointer none) H) (hK : quorumI n ≠ 0 → 0 ≤ me → me < n → ∀ p B H', H.le H' → (∀ b, B b → H.next ≤ b) → IsP B H' p (Pro.new n me) → K (.pointer (some ⟨p, 0, none⟩)) H') :
    c.C (c.F n_proposer_New) [.int .i64 n, .int .i64 me] H K := by
  refine c.enter hc.proposer_New rfl ?_
  simp -implicitDefEqProofs [c_proposer_New]
  refine call_of (Quorum_ok c hB ?_)
  by_cases h1 : quorumI n = 0
  · simp -implicitDefEqProofs [h1]
    exact h0 (.inl h1)
  · by_cases h2 : me < 0
    · simp -implicitDefEqProofs [h1, h2]
      exact h0 (.inr (.inl h2))
    · by_cases h3 : n ≤ me
      · simp -implicitDefEqProofs [h1, h2, h3]
        exact h0 (.inr (.inr h3))
      · simp -implicitDefEqProofs [h1, h2, h3]
        refine hK h1 (by omega) (by omega) H.next (fun b => b = H.next) _ (H.le_alloc _) (fun b hb => by omega) ⟨fun b hb => by rw [YX]; omega, rfl, .map none, ?_, .inl ⟨rfl, rfl, rfl⟩⟩
        rw [YV, if_pos rfl]
        rfl

include hc in
theorem PLeads_ok (h : IsP B H p P) (hK : K (.bool (decide (P.does = 2))) H) : c.C (c.F n_proposer_Proposer_Leads) [.pointer (some ⟨p, 0, none⟩)] H K := by
  refine c.enter hc.proposer_Proposer_Leads rfl ?_
  obtain ⟨mv, g, _⟩ := h.rep
  simp -implicitDefEqProofs [c_proposer_Proposer_Leads, g, cellsP, nilOf]
  exact hK
include hc in
theorem PLeads_none (hK : K (.bool false) H) : c.C (c.F n_proposer_Proposer_Leads) [.pointer none] H K := by
  refine c.enter hc.proposer_Proposer_Leads rfl ?_
  simp -implicitDefEqProofs [c_proposer_Proposer_Leads, nilOf]
  exact hK
include hc in
theorem Pvote_ok {s : Int} {x : ByteArray} (h : IsP B H p P) (hK : ∀ H', H.le H' → K (vV ⟨s, P.ba, P.bn, x⟩) H') : c.C (c.F n_proposer_Proposer_vote) [.pointer (some ⟨p, 0, none⟩), .int .i64 s, .string x] H K := by
  refine c.enter hc.proposer_Proposer_vote rfl ?_
  obtain ⟨mv, g, _⟩ := h.rep
  have hp := h.lt p h.own
  have e1 : ¬ p = H.next := by omega
  simp -implicitDefEqProofs [c_proposer_Proposer_vote, g, cellsP, e1]
  exact hK _ ((H.le_alloc _).set (Nat.le_refl _) _)
end
end Go.Proofs.YtpbbjfighohokaaI
namespace Go.Proofs.YtpbbjfighohokaaI
attribute [local simp] J0 J1 J2 J3 J4 J5 J6 J7 J8 J9 Ja Jb Jc Jd Je Jf Jg Jh Ji Jj Jk Jl Jm Jn Jo Jp Jq Jr Js Jt Ju Jv Jw Jx Jy Jz JA JB JC JD JE JF JG JH JI JJ JK JL JM JN JO JP JQ JR JS stillI IOp.kind JT JU JV JW JX JY JZ Y0 Y1 Y2 Y3 Y4 Y5 Y6 Y7 Y8 Y9 Ya Yb Yc Yd Ye Yf Yg Yh Yi Yj Yk Yl Ym Yn Yo Yp Yq ial Yr Ys Yt Yu Yv Yw Yx Yy ires iresL ires1 Yz YA YB YC YD YE bin2 YF YG YH YI YJ YK YL YM YN YO YP YQ YR YS YT YU un1 shOk eqL eq1 fillL putAt IHeap.load1 IHeap.loadL IHeap.storeL YV YW YX YY YZ B0 B1 B2 B3 B4 B5 B6 B7 B8 B9 Ba Bb Bc Bd Be Bf Bg Bh Bi Bj Bk Bl Bm Bn Bo Bp
set_option linter.unusedSimpArgs false
set_option linter.unusedVariables false
open Go

section
variable (c : Ctx) (hA : HasBalA c) (hB : HasBalB c) (hD : HasBalD c) (hc : HasProp c) (hT : ProT c) {H : IHeap} {K : Value → IHeap → Prop} {B : Nat → Prop} {p : Nat} {P : Pro}

theorem IsP.put {B : Nat → Prop} {H H' : IHeap} {p : Nat} {P P' : Pro} (h : IsP B H p P) (hn : H.next ≤ H'.next) (hg : ∀ mv, H.get p = some (.cells (cellsP P mv) false) → H'.get p = some (.cells (cellsP P' mv) false))
    (hr : ∀ b, b < H.next → b ≠ p → H'.get b = H.get b) (hb : P'.best = P.best) (hd : P'.does = P.does ∨ P'.does = 0) : IsP B H' p P' := by
  obtain ⟨h1, h2, mv, h3, h4⟩ := h
  refine ⟨fun b hb => Nat.lt_of_lt_of_le (h1 b hb) hn, h2, mv, hg mv h3, ?_⟩
  rcases h4 with ⟨e1, e2, e3⟩ | ⟨r, e, hrB, hm⟩
  · exact .inl ⟨e1, by rw [hb]; exact e2, by rcases hd with hd | hd <;> omega⟩
  · refine .inr ⟨r, e, hrB, ?_⟩
    rw [hb]
    exact hm.same hn (hr r (h1 r hrB) (fun e => hm.ne_cells h3 e.symm))

include hA hc in
theorem PStep_ok {a n : Int} (h : IsP B H p P) (hK : ∀ H', Fr B H H' → IsP B H' p (P.step a n).1 → K (.bool (P.step a n).2) H') : c.C (c.F n_proposer_Proposer_Step) [.pointer (some ⟨p, 0, none⟩), vB a n] H K := by
  refine c.enter hc.proposer_Proposer_Step rfl ?_
  obtain ⟨mv, g, _⟩ := h.rep
  have hp := h.lt p h.own
  have e1 : ¬ p = H.next := by omega
  simp -implicitDefEqProofs [c_proposer_Proposer_Step, vB, nilOf]
  have k0 := H.le_alloc (.cells [.int .i64 a, .int .i64 n] false)
  refine dcall_of c.mono (Valid_ok c hA fun H1 k1 => ?_)
  have g1 := (k1.get p (by rw [YX]; omega)).trans ((k0.get p hp).trans g)
  have b1 := (k1.get H.next (by rw [YX]; omega)).trans (alloc_get H _)
  by_cases hv : validB a n = true
  · simp -implicitDefEqProofs [hv, b1, g1, cP0, cP1, cP2, cP4, cP5, cP6, cP7, cP15, cQ0, cQ1, cQ4, cQ5, cQ6, cQ7, cQ15, cPlen, tP2, tP4, tP6, tP7]
    refine dcall_of c.mono (Cmp_ok c hA fun H2 k2 => ?_)
    have n1 := k1.next
    rw [YX] at n1
    have g2 := (k2.get p (by omega)).trans g1
    have b2 := (k2.get H.next (by omega)).trans b1
    by_cases hcm : cmpB a n P.ba P.bn ≤ 0
    · have hs : P.step a n = (P, false) := by unfold Pro.step; rw [if_pos (.inr hcm)]
      rw [hs] at hK
      simp -implicitDefEqProofs [hcm]
      have k := (k0.trans k1).trans k2
      exact hK _ (k.fr _) (h.le k)
    · have hs : P.step a n = ((P.setBal a n).setDoes 0, true) := by unfold Pro.step; rw [if_neg (by simp [hv, hcm])]
      rw [hs] at hK
      simp -implicitDefEqProofs [hcm, g2, b2, cP0, cP1, cP2, cP4, cP5, cP6, cP7, cP15, cQ0, cQ1, cQ4, cQ5, cQ6, cQ7, cQ15, cPlen, tP2, tP4, tP6, tP7]
      have k := (k0.trans k1).trans k2
      have g0 := (k.get p hp).trans g
      refine hK _ (((k.fr B).set (.inl h.own) _).set (.inl h.own) _) (h.put (Nat.le_trans k.next (Nat.le_refl _)) (fun mv' g' => ?_) (fun b hb hne => ?_) rfl (.inr rfl))
      · rw [g'] at g
        simp only [Option.some.injEq, IObj.cells.injEq, and_true] at g
        have : mv' = mv := by simpa [cellsP] using g
        subst this
        rw [YW, if_pos rfl]
      · rw [YW, if_neg hne, YW, if_neg hne]
        exact k.get b hb
  · have hs : P.step a n = (P, false) := by unfold Pro.step; rw [if_pos (.inl (by simpa using hv))]
    rw [hs] at hK
    simp -implicitDefEqProofs [hv]
    exact hK _ ((k0.trans k1).fr _) (h.le (k0.trans k1))

def zeroVote : VoteD := ⟨0, 0, 0, noS⟩
def Pro.proposeV (P : Pro) (s : ByteArray) : VoteD := if (P.propose s).2 = 0 then ⟨P.next, P.ba, P.bn, s⟩ else zeroVote
include hc in
theorem PPropose_ok {s : ByteArray} (h : IsP B H p P) (ho : P.ok) (hK : ∀ H', Fr B H H' → IsP B H' p (P.propose s).1 → K (.tuple #[vV (P.proposeV s), .int .i64 (P.propose s).2]) H') :
    c.C (c.F n_proposer_Proposer_Propose) [.pointer (some ⟨p, 0, none⟩), .string s] H K := by
  refine c.enter hc.proposer_Proposer_Propose rfl ?_
  obtain ⟨mv, g, _⟩ := h.rep
  have hp := h.lt p h.own
  have e1 : ¬ p = H.next := by omega
  have hl : s.data.toList.length = s.size := rfl
  have kA : ∀ x y, H.le ((H.alloc x).set H.next y) := fun x y => (H.le_alloc _).set (Nat.le_refl _) _
  unfold Pro.proposeV at hK
  unfold Pro.propose at hK
  by_cases h1 : 4096 < s.size
  · have h1' : (4096 : Int) < (s.size : Int) := by omega
    simp only [if_pos h1] at hK
    simp -implicitDefEqProofs [c_proposer_Proposer_Propose, nilOf, hl, h1']
    exact hK _ ((kA _ _).fr _) (h.le (kA _ _))
  · have h1' : ¬ (4096 : Int) < (s.size : Int) := by omega
    simp only [if_neg h1] at hK
    have z5 : ¬ ((5 : Int) = 0) := by decide
    have z16 : ¬ ((16 : Int) = 0) := by decide
    by_cases h2 : 1024 ≤ P.next
    · simp only [if_pos h2, if_neg z5] at hK
      simp -implicitDefEqProofs [c_proposer_Proposer_Propose, nilOf, hl, h1', h2, g, cP0, cP1, cP2, cP4, cP5, cP6, cP7, cP15, cQ0, cQ1, cQ4, cQ5, cQ6, cQ7, cQ15, cPlen, tP2, tP4, tP6, tP7, e1]
      exact hK _ ((kA _ _).fr _) (h.le (kA _ _))
    · simp only [if_neg h2] at hK
      by_cases h3 : P.does = 2
      · simp only [h3, ne_eq, not_true, if_false] at hK
        have w1 : IntKind.i64.wrap (P.next + 1) = P.next + 1 := wrap64 (by have := ho.2.2.2.1; have := ho.2.2.2.2.1; omega) (by omega)
        have w2 : IntKind.i64.wrap ((P.setNext (P.next + 1)).next - 1) = P.next := by
          rw [show (P.setNext (P.next + 1)).next - 1 = P.next by show P.next + 1 - 1 = P.next; omega]
          exact wrap64 (by have := ho.2.2.2.1; have := ho.2.2.2.2.1; omega) (by omega)
        simp -implicitDefEqProofs [c_proposer_Proposer_Propose, nilOf, hl, h1', h2, h3, g, cP0, cP1, cP2, cP4, cP5, cP6, cP7, cP15, cQ0, cQ1, cQ4, cQ5, cQ6, cQ7, cQ15, cPlen, tP2, tP4, tP6, tP7, e1, w1, w2]
        obtain ⟨HX, hHX⟩ : ∃ X : IHeap, X = (H.alloc (.cells [.int .i64 0, .int .i64 0, .int .i64 0, .string ⟨#[]⟩] false)).set p (.cells (cellsP (P.setNext (P.next + 1)) mv) false) := ⟨_, rfl⟩
        have fX : Fr B H HX := by rw [hHX]; exact (((H.le_alloc _).fr B).set (.inl h.own) _)
        have nX : HX.next = H.next + 1 := by rw [hHX]; rfl
        have gX : HX.get H.next = some (.cells [.int .i64 0, .int .i64 0, .int .i64 0, .string ⟨#[]⟩] false) := by
          rw [hHX, YW, if_neg (fun e => e1 e.symm)]; exact alloc_get _ _
        have iX : IsP B HX p (P.setNext (P.next + 1)) := h.put (by omega) (fun mv' g' => by
          have : mv' = mv := by simpa [g', cellsP] using g
          subst this
          rw [hHX, YW, if_pos rfl]) (fun b hb hne => by rw [hHX, YW, if_neg hne, YV, if_neg (by omega)]) rfl (.inl rfl)
        rw [show (H.alloc (.cells [.int .i64 0, .int .i64 0, .int .i64 0, .string ⟨#[]⟩] false)).set p _ = HX from hHX.symm]
        refine call_of (Pvote_ok c hc (s := P.next) iX fun H2 k2 => ?_)
        have g2 := (k2.get H.next (by omega)).trans gX
        simp -implicitDefEqProofs [vV, g2]
        refine hK _ ((fX.trans_le k2).set (.inr (Nat.le_refl _)) _) ?_
        exact ((iX.le k2).fr (((IHeap.le_refl H2).fr (fun b => b = H.next)).set (.inl rfl) _) (fun b hb e => by have := h.lt b hb; omega))
      · have h3' : ¬ P.does = 2 := h3
        simp only [h3, ne_eq, not_false_eq_true, if_true, if_neg z16] at hK
        simp -implicitDefEqProofs [c_proposer_Proposer_Propose, nilOf, hl, h1', h2, h3, g, cP0, cP1, cP2, cP4, cP5, cP6, cP7, cP15, cQ0, cQ1, cQ4, cQ5, cQ6, cQ7, cQ15, cPlen, tP2, tP4, tP6, tP7, e1]
        exact hK _ ((kA _ _).fr _) (h.le (kA _ _))
end
end Go.Proofs.YtpbbjfighohokaaI
namespace Go.Proofs.YtpbbjfighohokaaI
attribute [local simp] J0 J1 J2 J3 J4 J5 J6 J7 J8 J9 Ja Jb Jc Jd Je Jf Jg Jh Ji Jj Jk Jl Jm Jn Jo Jp Jq Jr Js Jt Ju Jv Jw Jx Jy Jz JA JB JC JD JE JF JG JH JI JJ JK JL JM JN JO JP JQ JR JS stillI IOp.kind JT JU JV JW JX JY JZ Y0 Y1 Y2 Y3 Y4 Y5 Y6 Y7 Y8 Y9 Ya Yb Yc Yd Ye Yf Yg Yh Yi Yj Yk Yl Ym Yn Yo Yp Yq ial Yr Ys Yt Yu Yv Yw Yx Yy ires iresL ires1 Yz YA YB YC YD YE bin2 YF YG YH YI YJ YK YL YM YN YO YP YQ YR YS YT YU un1 shOk eqL eq1 fillL putAt IHeap.load1 IHeap.loadL IHeap.storeL YV YW YX YY YZ B0 B1 B2 B3 B4 B5 B6 B7 B8 B9 Ba Bb Bc Bd Be Bf Bg Bh Bi Bj Bk Bl Bm Bn Bo Bp
set_option linter.unusedSimpArgs false
set_option linter.unusedVariables false
open Go

section
variable (c : Ctx) (hA : HasBalA c) (hB : HasBalB c) (hD : HasBalD c) (hc : HasProp c) (hT : ProT c) {H : IHeap} {K : Value → IHeap → Prop} {B : Nat → Prop} {p : Nat} {P : Pro}

include hA hD hc in
theorem PLead_ok {a n fr : Int} (h : IsP B H p P) (hK : ∀ H' B', Fr B H H' → (∀ b, B' b → B b ∨ H.next ≤ b) → IsP B' H' p (P.lead a n fr).1 → K (.tuple #[vB (P.lead a n fr).2.1.1 (P.lead a n fr).2.1.2, .int .i64 (P.lead a n fr).2.2]) H') :
    c.C (c.F n_proposer_Proposer_Lead) [.pointer (some ⟨p, 0, none⟩), vB a n, .int .i64 fr] H K := by
  refine c.enter hc.proposer_Proposer_Lead rfl ?_
  obtain ⟨mv, g, _⟩ := h.rep
  have hp := h.lt p h.own
  have e1 : ¬ p = H.next := by omega
  have e2 : ¬ p = H.next + 1 := by omega
  obtain ⟨H0, hH0⟩ : ∃ X : IHeap, X = (H.alloc (.cells [.int .i64 a, .int .i64 n] false)).alloc (.cells [.int .i64 0, .int .i64 0] false) := ⟨_, rfl⟩
  have k0 : H.le H0 := by rw [hH0]; exact (H.le_alloc _).alloc _
  have n0 : H0.next = H.next + 2 := by rw [hH0]; rfl
  have b0 : H0.get H.next = some (.cells [.int .i64 a, .int .i64 n] false) := by rw [hH0, YV, if_neg (by rw [YX]; omega), YV, if_pos rfl]
  have r0 : H0.get (H.next + 1) = some (.cells [.int .i64 0, .int .i64 0] false) := by rw [hH0, YV, YX, if_pos rfl]
  simp -implicitDefEqProofs [c_proposer_Proposer_Lead, vB, nilOf, ← hH0, b0]
  refine call_of (Valid_ok c hA fun H1 k1 => ?_)
  have n1 := k1.next
  have k01 := k0.trans k1
  have g1 := (k01.get p hp).trans g
  have b1 := (k1.get H.next (by omega)).trans b0
  have r1 := (k1.get (H.next + 1) (by omega)).trans r0
  have bad : ∀ (HX : IHeap) (x y : Value) (z : Int), H.le HX → H.next + 1 < HX.next → P.lead a n fr = (P, (0, 0), z) → K (.tuple #[vB 0 0, .int .i64 z]) (HX.set (H.next + 1) (.cells [x, y] false)) := by
    intro HX x y z kX nX hl
    rw [hl] at hK
    exact hK _ B (((kX.fr B)).set (.inr (by omega)) _) (fun b hb => .inl hb) ((h.le kX).fr (((IHeap.le_refl HX).fr (fun b => b = H.next + 1)).set (.inl rfl) _) (fun b hb e => by have := h.lt b hb; omega))
  by_cases hbad : validB a n = false ∨ fr < 0 ∨ 1024 ≤ fr
  · have hl : P.lead a n fr = (P, (0, 0), 1) := by unfold Pro.lead; rw [if_pos hbad]
    by_cases hv : validB a n = true
    · by_cases h2 : fr < 0
      · simp -implicitDefEqProofs [hv, h2, r1]
        exact bad H1 _ _ _ k01 (by omega) hl
      · have h3 : 1024 ≤ fr := by rcases hbad with h | h | h; rw [hv] at h; cases h; exact absurd h h2; exact h
        simp -implicitDefEqProofs [hv, h2, h3, r1]
        exact bad H1 _ _ _ k01 (by omega) hl
    · simp -implicitDefEqProofs [hv, r1]
      exact bad H1 _ _ _ k01 (by omega) hl
  · have hv : validB a n = true := by cases hq : validB a n with | true => rfl | false => exact absurd (.inl hq) hbad
    have h2 : ¬ fr < 0 := fun h => hbad (.inr (.inl h))
    have h3 : ¬ 1024 ≤ fr := fun h => hbad (.inr (.inr h))
    obtain ⟨H2, hH2⟩ : ∃ X : IHeap, X = (H1.alloc (.cells [.int .i64 a, .int .i64 n, .int .i64 P.ba, .int .i64 P.bn] false)).alloc (.cells [.int .i64 0, .int .i64 0] false) := ⟨_, rfl⟩
    have k2 : H1.le H2 := by rw [hH2]; exact (H1.le_alloc _).alloc _
    have n2 : H2.next = H1.next + 2 := by rw [hH2]; rfl
    simp -implicitDefEqProofs [hv, h2, h3, b1, g1, cP0, cP1, cP2, cP4, cP5, cP6, cP7, cP15, cQ0, cQ1, cQ4, cQ5, cQ6, cQ7, cQ15, cPlen, tP2, tP4, tP6, tP7, ← hH2]
    refine dcall_of c.mono (Max_ok c hA hD (l := [(a, n), (P.ba, P.bn)]) ?_ (by simp) fun H3 k3 => ?_)
    · refine ⟨_, _, rfl, fun _ => ⟨H1.next, 0, [.int .i64 a, .int .i64 n, .int .i64 P.ba, .int .i64 P.bn], false, rfl, by omega, by rw [hH2, YV, if_neg (by rw [YX]; omega), YV, if_pos rfl], fun i r hr => ?_⟩⟩
      match i, hr with
      | 0, hr => simp [rowB] at hr; subst hr; exact ⟨rfl, rfl, by simp⟩
      | 1, hr => simp [rowB] at hr; subst hr; exact ⟨rfl, rfl, by simp⟩
      | i + 2, hr => simp at hr
    · have n3 := k3.next
      have k03 := (k01.trans k2).trans k3
      have g3 := (k03.get p hp).trans g
      have t3 : H3.get (H1.next + 1) = some (.cells [.int .i64 0, .int .i64 0] false) := by rw [k3.get _ (by omega), hH2, YV, YX, if_pos rfl]
      have r3 : H3.get (H.next + 1) = some (.cells [.int .i64 0, .int .i64 0] false) := ((k2.trans k3).get _ (by omega)).trans r1
      obtain ⟨m, hm⟩ : ∃ m, m = maxL [(a, n), (P.ba, P.bn)] := ⟨_, rfl⟩
      rw [← hm]
      have e3 : ¬ H.next + 1 = H1.next + 1 := by omega
      obtain ⟨H4, hH4⟩ : ∃ X : IHeap, X = H3.set (H1.next + 1) (.cells [.int .i64 m.1, .int .i64 m.2] false) := ⟨_, rfl⟩
      have k4 : H.le H4 := by rw [hH4]; exact k03.set (by omega) _
      have n4 : H4.next = H3.next := by rw [hH4]; rfl
      have g4 := (k4.get p hp).trans g
      have t4 : H4.get (H1.next + 1) = some (.cells [.int .i64 m.1, .int .i64 m.2] false) := by rw [hH4, YW, if_pos rfl]
      have r4 : H4.get (H.next + 1) = some (.cells [.int .i64 0, .int .i64 0] false) := by rw [hH4, YW, if_neg e3]; exact r3
      by_cases hf : 2147483647 ≤ m.1
      · have hl : P.lead a n fr = (P, (0, 0), 5) := by unfold Pro.lead; rw [if_neg hbad, ← hm, if_pos hf]
        simp -implicitDefEqProofs [vB, t3, ← hH4, t4, hf, r4]
        exact bad H4 _ _ _ k4 (by omega) hl
      · have hl : P.lead a n fr = ({ Pro.new P.n P.me with ba := (nextB m.1 P.me).1, bn := (nextB m.1 P.me).2, does := 1, fr := fr, next := fr }, nextB m.1 P.me, 0) := by unfold Pro.lead; rw [if_neg hbad, ← hm, if_neg hf]
        rw [hl] at hK
        obtain ⟨H5, hH5⟩ : ∃ X : IHeap, X = H4.alloc (.cells [.int .i64 0, .int .i64 0] false) := ⟨_, rfl⟩
        have k5 : H.le H5 := by rw [hH5]; exact k4.alloc _
        have n5 : H5.next = H4.next + 1 := by rw [hH5]; rfl
        simp -implicitDefEqProofs [vB, t3, ← hH4, t4, hf, g4, cP0, cP1, cP2, cP4, cP5, cP6, cP7, cP15, cQ0, cQ1, cQ4, cQ5, cQ6, cQ7, cQ15, cPlen, tP2, tP4, tP6, tP7, ← hH5]
        refine dcall_of c.mono (Next_ok c hD fun H6 k6 => ?_)
        have n6 := k6.next
        obtain ⟨b, hb⟩ : ∃ b, b = nextB m.1 P.me := ⟨_, rfl⟩
        rw [← hb] at hK ⊢
        have t6 : H6.get H4.next = some (.cells [.int .i64 0, .int .i64 0] false) := by rw [k6.get _ (by omega), hH5, YV, if_pos rfl]
        have k06 := k5.trans k6
        have g6 := (k06.get p hp).trans g
        obtain ⟨H7, hH7⟩ : ∃ X : IHeap, X = H6.set H4.next (.cells [.int .i64 b.1, .int .i64 b.2] false) := ⟨_, rfl⟩
        have k7 : H.le H7 := by rw [hH7]; exact k06.set (by omega) _
        have n7 : H7.next = H6.next := by rw [hH7]; rfl
        have g7 := (k7.get p hp).trans g
        have t7 : H7.get H4.next = some (.cells [.int .i64 b.1, .int .i64 b.2] false) := by rw [hH7, YW, if_pos rfl]
        have r7 : H7.get (H.next + 1) = some (.cells [.int .i64 0, .int .i64 0] false) := by
          rw [hH7, YW, if_neg (by omega), k6.get _ (by omega), hH5, YV, if_neg (by omega)]; exact r4
        obtain ⟨PN, hPN⟩ : ∃ PN : Pro, PN = { Pro.new P.n P.me with ba := b.1, bn := b.2, does := 1, fr := fr, next := fr } := ⟨_, rfl⟩
        rw [← hPN] at hK
        obtain ⟨H8, hH8⟩ : ∃ X : IHeap, X = (H7.alloc (.map [] 0)).set p (.cells (cellsP PN (.map (some H7.next))) false) := ⟨_, rfl⟩
        have f8 : Fr B H H8 := by rw [hH8]; exact ((k7.alloc _).fr B).set (.inl h.own) _
        have n8 : H8.next = H7.next + 1 := by rw [hH8]; rfl
        have hH8' : (H7.alloc (.map [] 0)).set p (.cells [.int .i64 P.n, .int .i64 P.me, .int .i64 b.1, .int .i64 b.2, .int .i64 1, .int .i64 fr, .int .i64 fr, .bool false, .bool false, .bool false, .bool false, .bool false, .bool false, .bool false, .bool false, .map (some H7.next)] false) = H8 := by rw [hH8, hPN]; rfl
        have i8 : IsP (fun x => x = p ∨ x = H7.next) H8 p PN := by
          refine ⟨fun x hx => ?_, .inl rfl, .map (some H7.next), by rw [hH8, YW, if_pos rfl], .inr ⟨H7.next, rfl, .inr rfl, ?_⟩⟩
          · have := k7.next
            rcases hx with rfl | rfl <;> omega
          · have := IsMap.new H7 kI vV (κ := Int)
            rw [show PN.best = fun _ => none by rw [hPN]; rfl]
            exact this.same (by rw [hH8]; exact Nat.le_refl _) (by rw [hH8, YW, if_neg (by have := k7.next; omega)])
        have t8 : H8.get H4.next = some (.cells [.int .i64 b.1, .int .i64 b.2] false) := by rw [hH8, YW, if_neg (by have := k4.next; omega), YV, if_neg (by omega)]; exact t7
        have r8 : H8.get (H.next + 1) = some (.cells [.int .i64 0, .int .i64 0] false) := by rw [hH8, YW, if_neg (by omega), YV, if_neg (by omega)]; exact r7
        have e7 : ¬ p = H7.next := by have := k7.next; omega
        have d16 : List.drop 16 (cellsP P mv) = [] := rfl
        simp -implicitDefEqProofs [vB, t6, ← hH7, g7, e7, d16, cP0, cP1, cP2, cP4, cP5, cP6, cP7, cP15, cQ0, cQ1, cQ4, cQ5, cQ6, cQ7, cQ15, cPlen, tP2, tP4, tP6, tP7, t7, hH8', t8, r8]
        refine hK _ _ (f8.set (.inr (by omega)) _) (fun x hx => ?_) (i8.fr (((IHeap.le_refl H8).fr (fun b => b = H.next + 1)).set (.inl rfl) _) (fun x hx e => ?_))
        · have := k7.next
          rcases hx with rfl | rfl
          · exact .inl h.own
          · exact .inr this
        · have := k7.next
          rcases hx with rfl | rfl <;> omega
end
end Go.Proofs.YtpbbjfighohokaaI
