/- PRINTED by gen.py (this session's own): the intermediate form of some functions, and a context's having them. / A learner: what each function does. -/
import Derived.Test.YtpbbjfighohokaaBalD
import Derived.Test.YtpbbjfighohokaaVotes
namespace Go.Proofs.YtpbbjfighohokaaI
set_option linter.unusedSimpArgs false
set_option linter.unusedVariables false
open Go

/-- hurdle/learner.New -/
abbrev n_learner_New : Nat := 81
/-- (*hurdle/learner.Learner).Hear -/
abbrev n_learner_Learner_Hear : Nat := 83
/-- (*hurdle/learner.Learner).Tell -/
abbrev n_learner_Learner_Tell : Nat := 84
/-- (*hurdle/learner.Learner).Trim -/
abbrev n_learner_Learner_Trim : Nat := 85
/-- (*hurdle/learner.Learner).Base -/
abbrev n_learner_Learner_Base : Nat := 86
/-- (*hurdle/learner.Learner).Log -/
abbrev n_learner_Learner_Log : Nat := 87
/-- (*hurdle/learner.Learner).Next -/
abbrev n_learner_Learner_Next : Nat := 88
/-- (*hurdle/learner.Learner).may -/
abbrev n_learner_Learner_may : Nat := 89
/-- (*hurdle/learner.Learner).tally -/
abbrev n_learner_Learner_tally : Nat := 90
/-- (*hurdle/learner.Learner).forget -/
abbrev n_learner_Learner_forget : Nat := 91
/-- hurdle/learner.New -/
def c_learner_New (F : Nat → FuncId) (Ty : Nat → TypeId) : IFunc := ⟨11, [.tmp 2],
 .seq (.ops [⟨some 2, .move (.const (.pointer none)), none⟩])
 (.seq (.seq (.ops [⟨some 3, .move (.tmp 0), none⟩,
 ⟨some 4, .call (F 7) [.tmp 3], none⟩,
 ⟨some 5, .bin .eql (.tmp 4) (.const (.int .i64 0)), none⟩])
 (.cond (.tmp 5)
 (.seq (.ops [⟨some 2, .move (.const (.pointer none)), none⟩])
 (.ret))
 (.skip)))
 (.seq (.ops [⟨some 6, .move (.tmp 0), none⟩,
 ⟨some 7, .mkMap, none⟩,
 ⟨some 8, .mkMap, none⟩,
 ⟨some 9, .build [.int .i64 0, .int .i64 0, .map none, .map none] [((0, 1), .tmp 6), ((2, 1), .tmp 7), ((3, 1), .tmp 8)], none⟩,
 ⟨some 10, .box (.tmp 9), none⟩,
 ⟨some 2, .move (.tmp 10), none⟩])
 (.ret)))⟩
/-- (*hurdle/learner.Learner).Hear -/
def c_learner_Learner_Hear (F : Nat → FuncId) (Ty : Nat → TypeId) : IFunc := ⟨80, [.tmp 6],
 .seq (.ops [⟨some 5, .box (.tmp 2), none⟩,
 ⟨some 6, .move (.const (.bool false)), none⟩])
 (.seq (.seq (.ops [⟨some 10, .move (.tmp 0), none⟩,
 ⟨some 11, .fieldAddr 0 (.tmp 5), none⟩,
 ⟨some 12, .load1 (.tmp 11), none⟩,
 ⟨some 13, .fieldAddr 3 (.tmp 5), none⟩,
 ⟨some 14, .load1 (.tmp 13), none⟩,
 ⟨some 15, .call (F 89) [.tmp 10, .tmp 12, .tmp 14], none⟩,
 ⟨some 16, .un .not (.tmp 15), none⟩,
 ⟨some 17, .move (.tmp 16), none⟩,
 ⟨some 18, .move (.tmp 1), some (17, false)⟩,
 ⟨some 19, .bin .lss (.tmp 18) (.const (.int .i64 0)), some (17, false)⟩,
 ⟨some 20, .pick (.tmp 17) (.const (.bool true)) (.tmp 19), none⟩,
 ⟨some 21, .move (.tmp 20), none⟩,
 ⟨some 22, .move (.tmp 1), some (21, false)⟩,
 ⟨some 23, .move (.tmp 0), some (21, false)⟩,
 ⟨some 24, .nilCheck (.tmp 23), some (21, false)⟩,
 ⟨some 25, .fieldAddr 0 (.tmp 24), some (21, false)⟩,
 ⟨some 26, .load1 (.tmp 25), some (21, false)⟩,
 ⟨some 27, .bin .geq (.tmp 22) (.tmp 26), some (21, false)⟩,
 ⟨some 28, .pick (.tmp 21) (.const (.bool true)) (.tmp 27), none⟩,
 ⟨some 29, .move (.tmp 28), none⟩,
 ⟨some 30, .fieldAddr 1 (.tmp 5), some (29, false)⟩,
 ⟨some 31, .loadN 2 (.tmp 30), some (29, false)⟩,
 ⟨some 32, .call (F 5) [.tmp 31], some (29, false)⟩,
 ⟨some 33, .un .not (.tmp 32), some (29, false)⟩,
 ⟨some 34, .pick (.tmp 29) (.const (.bool true)) (.tmp 33), none⟩])
 (.cond (.tmp 34)
 (.seq (.ops [⟨some 6, .move (.const (.bool false)), none⟩])
 (.ret))
 (.skip)))
 (.seq (.ops [⟨some 35, .fieldAddr 0 (.tmp 5), none⟩,
 ⟨some 36, .load1 (.tmp 35), none⟩,
 ⟨some 37, .move (.tmp 1), none⟩,
 ⟨some 38, .build [.int .i64 0, .int .i64 0] [((0, 1), .tmp 36), ((1, 1), .tmp 37)], none⟩,
 ⟨some 7, .alloc [.int .i64 0, .int .i64 0], none⟩,
 ⟨none, .store 2 (.tmp 7) (.tmp 38), none⟩])
 (.seq (.seq (.draw [(⟨some 40, .move (.tmp 0), none⟩, []),
 (⟨some 41, .nilCheck (.tmp 40), none⟩, []),
 (⟨some 42, .fieldAddr 3 (.tmp 41), none⟩, []),
 (⟨some 43, .load1 (.tmp 42), none⟩, []),
 (⟨some 44, .loadN 2 (.tmp 7), none⟩, []),
 (⟨some 45, .lookup (Ty 3) (.agg #[.int .i64 0, .int .i64 0, .int .i64 0, .string ⟨#[]⟩]) true (.tmp 43) (.tmp 44), none⟩, []),
 (⟨some 39, .move (.tmp 45), none⟩, []),
 (⟨some 46, .extract (.tmp 39) 0, none⟩, []),
 (⟨some 47, .extract (.tmp 39) 1, none⟩, []),
 (⟨some 8, .alloc [.int .i64 0, .int .i64 0, .int .i64 0, .string ⟨#[]⟩], none⟩, []),
 (⟨none, .store 4 (.tmp 8) (.tmp 46), none⟩, []),
 (⟨some 9, .move (.tmp 47), none⟩, [])])
 (.seq (.ops [⟨some 48, .move (.tmp 9), none⟩,
 ⟨some 49, .move (.tmp 48), none⟩,
 ⟨some 50, .fieldAddr 1 (.tmp 8), some (49, true)⟩,
 ⟨some 51, .loadN 2 (.tmp 50), some (49, true)⟩,
 ⟨some 52, .fieldAddr 1 (.tmp 5), some (49, true)⟩,
 ⟨some 53, .loadN 2 (.tmp 52), some (49, true)⟩,
 ⟨some 54, .call (F 4) [.tmp 51, .tmp 53], some (49, true)⟩,
 ⟨some 55, .bin .geq (.tmp 54) (.const (.int .i64 0)), some (49, true)⟩,
 ⟨some 56, .pick (.tmp 49) (.tmp 55) (.const (.bool false)), none⟩])
 (.cond (.tmp 56)
 (.seq (.ops [⟨some 6, .move (.const (.bool false)), none⟩])
 (.ret))
 (.skip))))
 (.seq (.draw [(⟨some 57, .move (.tmp 0), none⟩, []),
 (⟨some 58, .nilCheck (.tmp 57), none⟩, []),
 (⟨some 59, .fieldAddr 3 (.tmp 58), none⟩, []),
 (⟨some 60, .load1 (.tmp 59), none⟩, []),
 (⟨some 61, .loadN 2 (.tmp 7), none⟩, []),
 (⟨some 62, .loadN 4 (.tmp 5), none⟩, []),
 (⟨none, .mapUpdate (Ty 3) (.tmp 60) (.tmp 61) (.tmp 62), none⟩, [])])
 (.seq (.seq (.draw [(⟨some 63, .move (.tmp 0), none⟩, []),
 (⟨some 64, .loadN 4 (.tmp 5), none⟩, []),
 (⟨some 68, .move (.tmp 0), none⟩, []),
 (⟨some 69, .nilCheck (.tmp 68), none⟩, []),
 (⟨some 70, .fieldAddr 0 (.tmp 69), none⟩, []),
 (⟨some 71, .load1 (.tmp 70), none⟩, []),
 (⟨some 65, .call (F 90) [.tmp 63, .tmp 64], none⟩, [⟨some 71, .load1 (.tmp 70), none⟩]),
 (⟨some 66, .raw (.call ⟨.builtin .real, #[.tmp 65], #[(Ty 4)]⟩) (Ty 5), none⟩, []),
 (⟨some 67, .raw (.convert (Ty 5) (Ty 2) (.tmp 66)) (Ty 2), none⟩, []),
 (⟨some 72, .call (F 7) [.tmp 71], none⟩, []),
 (⟨some 73, .bin .lss (.tmp 67) (.tmp 72), none⟩, [])])
 (.cond (.tmp 73)
 (.seq (.ops [⟨some 6, .move (.const (.bool false)), none⟩])
 (.ret))
 (.skip)))
 (.seq (.ops [⟨some 74, .move (.tmp 0), none⟩,
 ⟨some 75, .fieldAddr 0 (.tmp 5), none⟩,
 ⟨some 76, .load1 (.tmp 75), none⟩,
 ⟨some 77, .fieldAddr 3 (.tmp 5), none⟩,
 ⟨some 78, .load1 (.tmp 77), none⟩,
 ⟨some 79, .call (F 84) [.tmp 74, .tmp 76, .tmp 78], none⟩,
 ⟨some 6, .move (.tmp 79), none⟩])
 (.ret)))))))⟩
/-- (*hurdle/learner.Learner).Tell -/
def c_learner_Learner_Tell (F : Nat → FuncId) (Ty : Nat → TypeId) : IFunc := ⟨21, [.tmp 6],
 .seq (.ops [⟨some 6, .move (.const (.bool false)), none⟩])
 (.seq (.seq (.ops [⟨some 7, .move (.tmp 0), none⟩,
 ⟨some 8, .move (.tmp 1), none⟩,
 ⟨some 9, .move (.tmp 2), none⟩,
 ⟨some 10, .call (F 89) [.tmp 7, .tmp 8, .tmp 9], none⟩,
 ⟨some 11, .un .not (.tmp 10), none⟩])
 (.cond (.tmp 11)
 (.seq (.ops [⟨some 6, .move (.const (.bool false)), none⟩])
 (.ret))
 (.skip)))
 (.seq (.ops [⟨some 12, .move (.tmp 0), none⟩,
 ⟨some 13, .nilCheck (.tmp 12), none⟩,
 ⟨some 14, .fieldAddr 2 (.tmp 13), none⟩,
 ⟨some 15, .load1 (.tmp 14), none⟩,
 ⟨some 16, .move (.tmp 1), none⟩,
 ⟨some 17, .move (.tmp 2), none⟩,
 ⟨none, .mapUpdate (Ty 2) (.tmp 15) (.tmp 16) (.tmp 17), none⟩])
 (.seq (.ops [⟨some 18, .move (.tmp 0), none⟩,
 ⟨some 19, .move (.tmp 1), none⟩,
 ⟨some 20, .call (F 91) [.tmp 18, .tmp 19], none⟩])
 (.seq (.ops [⟨some 6, .move (.const (.bool true)), none⟩])
 (.ret)))))⟩
/-- (*hurdle/learner.Learner).Trim -/
def c_learner_Learner_Trim (F : Nat → FuncId) (Ty : Nat → TypeId) : IFunc := ⟨36, [.tmp 4],
 .seq (.ops [⟨some 4, .move (.const (.int .i64 0)), none⟩])
 (.seq (.seq (.ops [⟨some 6, .move (.tmp 0), none⟩,
 ⟨some 7, .eqNil 0 false (.tmp 6), none⟩])
 (.cond (.tmp 7)
 (.seq (.ops [⟨some 4, .move (.const (.int .i64 0)), none⟩])
 (.ret))
 (.skip)))
 (.seq (.ops [⟨some 8, .move (.tmp 1), none⟩,
 ⟨some 9, .move (.tmp 0), none⟩,
 ⟨some 10, .call (F 88) [.tmp 9], none⟩,
 ⟨some 11, .mxn false (.tmp 8) (.tmp 10), none⟩,
 ⟨some 1, .move (.tmp 11), none⟩])
 (.seq (.ops [⟨some 5, .move (.const (.int .i64 0)), none⟩])
 (.seq (.block 0 (.loop (.seq (.seq (.ops [⟨some 12, .move (.tmp 0), none⟩,
 ⟨some 13, .nilCheck (.tmp 12), none⟩,
 ⟨some 14, .fieldAddr 1 (.tmp 13), none⟩,
 ⟨some 15, .load1 (.tmp 14), none⟩,
 ⟨some 16, .move (.tmp 1), none⟩,
 ⟨some 17, .bin .lss (.tmp 15) (.tmp 16), none⟩])
 (.cond (.tmp 17)
 (.skip)
 (.exit 0)))
 (.seq (.block 1 (.seq (.draw [(⟨some 20, .move (.tmp 0), none⟩, []),
 (⟨some 21, .nilCheck (.tmp 20), none⟩, []),
 (⟨some 22, .fieldAddr 2 (.tmp 21), none⟩, []),
 (⟨some 23, .load1 (.tmp 22), none⟩, []),
 (⟨some 24, .move (.tmp 0), none⟩, []),
 (⟨some 25, .nilCheck (.tmp 24), none⟩, []),
 (⟨some 26, .fieldAddr 1 (.tmp 25), none⟩, []),
 (⟨some 27, .load1 (.tmp 26), none⟩, []),
 (⟨none, .delete (Ty 2) (.tmp 23) (.tmp 27), none⟩, [])])
 (.ops [⟨some 28, .move (.tmp 0), none⟩,
 ⟨some 29, .nilCheck (.tmp 28), none⟩,
 ⟨some 30, .fieldAddr 1 (.tmp 29), none⟩,
 ⟨some 31, .load1 (.tmp 30), none⟩,
 ⟨some 32, .bin .add (.tmp 31) (.const (.int .i64 1)), none⟩,
 ⟨some 33, .nilCheck (.tmp 28), none⟩,
 ⟨some 34, .fieldAddr 1 (.tmp 33), none⟩,
 ⟨none, .store 1 (.tmp 34) (.tmp 32), none⟩])))
 (.ops [⟨some 18, .move (.tmp 5), none⟩,
 ⟨some 19, .bin .add (.tmp 18) (.const (.int .i64 1)), none⟩,
 ⟨some 5, .move (.tmp 19), none⟩])))))
 (.seq (.ops [⟨some 35, .move (.tmp 5), none⟩,
 ⟨some 4, .move (.tmp 35), none⟩])
 (.ret))))))⟩
/-- (*hurdle/learner.Learner).Base -/
def c_learner_Learner_Base (F : Nat → FuncId) (Ty : Nat → TypeId) : IFunc := ⟨9, [.tmp 2],
 .seq (.ops [⟨some 2, .move (.const (.int .i64 0)), none⟩])
 (.seq (.seq (.ops [⟨some 3, .move (.tmp 0), none⟩,
 ⟨some 4, .eqNil 0 false (.tmp 3), none⟩])
 (.cond (.tmp 4)
 (.seq (.ops [⟨some 2, .move (.const (.int .i64 0)), none⟩])
 (.ret))
 (.skip)))
 (.seq (.ops [⟨some 5, .move (.tmp 0), none⟩,
 ⟨some 6, .nilCheck (.tmp 5), none⟩,
 ⟨some 7, .fieldAddr 1 (.tmp 6), none⟩,
 ⟨some 8, .load1 (.tmp 7), none⟩,
 ⟨some 2, .move (.tmp 8), none⟩])
 (.ret)))⟩
/-- (*hurdle/learner.Learner).Log -/
def c_learner_Learner_Log (F : Nat → FuncId) (Ty : Nat → TypeId) : IFunc := ⟨31, [.tmp 4],
 .seq (.ops [⟨some 4, .move (.const (.slice none 0 0)), none⟩])
 (.seq (.seq (.ops [⟨some 7, .move (.tmp 0), none⟩,
 ⟨some 8, .eqNil 0 false (.tmp 7), none⟩])
 (.cond (.tmp 8)
 (.seq (.ops [⟨some 4, .move (.const (.slice none 0 0)), none⟩])
 (.ret))
 (.skip)))
 (.seq (.ops [⟨some 5, .move (.const (.slice none 0 0)), none⟩])
 (.seq (.seq (.ops [⟨some 9, .move (.tmp 1), none⟩,
 ⟨some 10, .move (.tmp 0), none⟩,
 ⟨some 11, .nilCheck (.tmp 10), none⟩,
 ⟨some 12, .fieldAddr 1 (.tmp 11), none⟩,
 ⟨some 13, .load1 (.tmp 12), none⟩,
 ⟨some 14, .mxn true (.tmp 9) (.tmp 13), none⟩,
 ⟨some 6, .move (.tmp 14), none⟩])
 (.block 0 (.loop (.seq (.seq (.ops [⟨some 15, .move (.tmp 6), none⟩,
 ⟨some 16, .move (.tmp 0), none⟩,
 ⟨some 17, .call (F 88) [.tmp 16], none⟩,
 ⟨some 18, .bin .lss (.tmp 15) (.tmp 17), none⟩])
 (.cond (.tmp 18)
 (.skip)
 (.exit 0)))
 (.seq (.block 1 (.ops [⟨some 21, .move (.tmp 5), none⟩,
 ⟨some 22, .move (.tmp 0), none⟩,
 ⟨some 23, .nilCheck (.tmp 22), none⟩,
 ⟨some 24, .fieldAddr 2 (.tmp 23), none⟩,
 ⟨some 25, .load1 (.tmp 24), none⟩,
 ⟨some 26, .move (.tmp 6), none⟩,
 ⟨some 27, .lookup (Ty 2) (.string ⟨#[]⟩) false (.tmp 25) (.tmp 26), none⟩,
 ⟨some 28, .buildSlice 1 [.string ⟨#[]⟩] [((0, 1), .tmp 27)], none⟩,
 ⟨some 29, .append 1 16 (.tmp 21) (.tmp 28), none⟩,
 ⟨some 5, .move (.tmp 29), none⟩]))
 (.ops [⟨some 19, .move (.tmp 6), none⟩,
 ⟨some 20, .bin .add (.tmp 19) (.const (.int .i64 1)), none⟩,
 ⟨some 6, .move (.tmp 20), none⟩]))))))
 (.seq (.ops [⟨some 30, .move (.tmp 5), none⟩,
 ⟨some 4, .move (.tmp 30), none⟩])
 (.ret)))))⟩
/-- (*hurdle/learner.Learner).Next -/
def c_learner_Learner_Next (F : Nat → FuncId) (Ty : Nat → TypeId) : IFunc := ⟨26, [.tmp 2],
 .seq (.ops [⟨some 2, .move (.const (.int .i64 0)), none⟩])
 (.seq (.seq (.ops [⟨some 6, .move (.tmp 0), none⟩,
 ⟨some 7, .eqNil 0 false (.tmp 6), none⟩])
 (.cond (.tmp 7)
 (.seq (.ops [⟨some 2, .move (.const (.int .i64 0)), none⟩])
 (.ret))
 (.skip)))
 (.seq (.ops [⟨some 8, .move (.tmp 0), none⟩,
 ⟨some 9, .nilCheck (.tmp 8), none⟩,
 ⟨some 10, .fieldAddr 1 (.tmp 9), none⟩,
 ⟨some 11, .load1 (.tmp 10), none⟩,
 ⟨some 3, .move (.tmp 11), none⟩])
 (.block 0 (.loop (.block 1 (.seq (.seq (.ops [⟨some 13, .move (.tmp 0), none⟩,
 ⟨some 14, .nilCheck (.tmp 13), none⟩,
 ⟨some 15, .fieldAddr 2 (.tmp 14), none⟩,
 ⟨some 16, .load1 (.tmp 15), none⟩,
 ⟨some 17, .move (.tmp 3), none⟩,
 ⟨some 18, .lookup (Ty 2) (.string ⟨#[]⟩) true (.tmp 16) (.tmp 17), none⟩,
 ⟨some 12, .move (.tmp 18), none⟩,
 ⟨some 19, .extract (.tmp 12) 0, none⟩,
 ⟨some 20, .extract (.tmp 12) 1, none⟩,
 ⟨some 4, .move (.tmp 19), none⟩,
 ⟨some 5, .move (.tmp 20), none⟩])
 (.seq (.ops [⟨some 21, .move (.tmp 5), none⟩,
 ⟨some 22, .un .not (.tmp 21), none⟩])
 (.cond (.tmp 22)
 (.seq (.ops [⟨some 23, .move (.tmp 3), none⟩,
 ⟨some 2, .move (.tmp 23), none⟩])
 (.ret))
 (.skip))))
 (.ops [⟨some 24, .move (.tmp 3), none⟩,
 ⟨some 25, .bin .add (.tmp 24) (.const (.int .i64 1)), none⟩,
 ⟨some 3, .move (.tmp 25), none⟩])))))))⟩
/-- (*hurdle/learner.Learner).may -/
def c_learner_Learner_may (F : Nat → FuncId) (Ty : Nat → TypeId) : IFunc := ⟨39, [.tmp 6],
 .seq (.ops [⟨some 6, .move (.const (.bool false)), none⟩])
 (.seq (.seq (.ops [⟨some 9, .move (.tmp 0), none⟩,
 ⟨some 10, .eqNil 0 false (.tmp 9), none⟩,
 ⟨some 11, .move (.tmp 10), none⟩,
 ⟨some 12, .move (.tmp 1), some (11, false)⟩,
 ⟨some 13, .move (.tmp 0), some (11, false)⟩,
 ⟨some 14, .nilCheck (.tmp 13), some (11, false)⟩,
 ⟨some 15, .fieldAddr 1 (.tmp 14), some (11, false)⟩,
 ⟨some 16, .load1 (.tmp 15), some (11, false)⟩,
 ⟨some 17, .bin .lss (.tmp 12) (.tmp 16), some (11, false)⟩,
 ⟨some 18, .pick (.tmp 11) (.const (.bool true)) (.tmp 17), none⟩,
 ⟨some 19, .move (.tmp 18), none⟩,
 ⟨some 20, .move (.tmp 1), some (19, false)⟩,
 ⟨some 21, .bin .geq (.tmp 20) (.const (.int .i64 1024)), some (19, false)⟩,
 ⟨some 22, .pick (.tmp 19) (.const (.bool true)) (.tmp 21), none⟩,
 ⟨some 23, .move (.tmp 22), none⟩,
 ⟨some 24, .move (.tmp 2), some (23, false)⟩,
 ⟨some 25, .strLen (.tmp 24), some (23, false)⟩,
 ⟨some 26, .bin .gtr (.tmp 25) (.const (.int .i64 4096)), some (23, false)⟩,
 ⟨some 27, .pick (.tmp 23) (.const (.bool true)) (.tmp 26), none⟩])
 (.cond (.tmp 27)
 (.seq (.ops [⟨some 6, .move (.const (.bool false)), none⟩])
 (.ret))
 (.skip)))
 (.seq (.ops [⟨some 29, .move (.tmp 0), none⟩,
 ⟨some 30, .nilCheck (.tmp 29), none⟩,
 ⟨some 31, .fieldAddr 2 (.tmp 30), none⟩,
 ⟨some 32, .load1 (.tmp 31), none⟩,
 ⟨some 33, .move (.tmp 1), none⟩,
 ⟨some 34, .lookup (Ty 2) (.string ⟨#[]⟩) true (.tmp 32) (.tmp 33), none⟩,
 ⟨some 28, .move (.tmp 34), none⟩,
 ⟨some 35, .extract (.tmp 28) 0, none⟩,
 ⟨some 36, .extract (.tmp 28) 1, none⟩,
 ⟨some 7, .move (.tmp 35), none⟩,
 ⟨some 8, .move (.tmp 36), none⟩])
 (.seq (.ops [⟨some 37, .move (.tmp 8), none⟩,
 ⟨some 38, .un .not (.tmp 37), none⟩,
 ⟨some 6, .move (.tmp 38), none⟩])
 (.ret))))⟩
/-- (*hurdle/learner.Learner).tally -/
def c_learner_Learner_tally (F : Nat → FuncId) (Ty : Nat → TypeId) : IFunc := ⟨38, [.tmp 4],
 .seq (.ops [⟨some 3, .box (.tmp 1), none⟩,
 ⟨some 4, .move (.const (.complex .f64 0 0)), none⟩])
 (.seq (.ops [⟨some 5, .move (.const (.complex .f64 0 0)), none⟩])
 (.seq (.seq (.ops [⟨some 9, .move (.tmp 0), none⟩,
 ⟨some 10, .nilCheck (.tmp 9), none⟩,
 ⟨some 11, .fieldAddr 0 (.tmp 10), none⟩,
 ⟨some 12, .load1 (.tmp 11), none⟩,
 ⟨some 13, .move (.const (.int .i64 0)), none⟩])
 (.block 0 (.loop (.seq (.ops [⟨some 14, .bin .lss (.tmp 13) (.tmp 12), none⟩])
 (.seq (.cond (.tmp 14)
 (.skip)
 (.exit 0))
 (.seq (.block 1 (.seq (.ops [⟨some 15, .move (.tmp 13), none⟩,
 ⟨some 6, .move (.tmp 15), none⟩])
 (.seq (.draw [(⟨some 17, .move (.tmp 0), none⟩, []),
 (⟨some 18, .nilCheck (.tmp 17), none⟩, []),
 (⟨some 19, .fieldAddr 3 (.tmp 18), none⟩, []),
 (⟨some 20, .load1 (.tmp 19), none⟩, []),
 (⟨some 21, .fieldAddr 0 (.tmp 3), none⟩, []),
 (⟨some 22, .load1 (.tmp 21), none⟩, []),
 (⟨some 23, .move (.tmp 6), none⟩, []),
 (⟨some 24, .build [.int .i64 0, .int .i64 0] [((0, 1), .tmp 22), ((1, 1), .tmp 23)], none⟩, []),
 (⟨some 25, .lookup (Ty 3) (.agg #[.int .i64 0, .int .i64 0, .int .i64 0, .string ⟨#[]⟩]) true (.tmp 20) (.tmp 24), none⟩, []),
 (⟨some 16, .move (.tmp 25), none⟩, []),
 (⟨some 26, .extract (.tmp 16) 0, none⟩, []),
 (⟨some 27, .extract (.tmp 16) 1, none⟩, []),
 (⟨some 7, .alloc [.int .i64 0, .int .i64 0, .int .i64 0, .string ⟨#[]⟩], none⟩, []),
 (⟨none, .store 4 (.tmp 7) (.tmp 26), none⟩, []),
 (⟨some 8, .move (.tmp 27), none⟩, [])])
 (.seq (.ops [⟨some 28, .move (.tmp 8), none⟩])
 (.cond (.tmp 28)
 (.seq (.ops [⟨some 29, .move (.tmp 5), none⟩,
 ⟨some 30, .raw (.binOp .add (Ty 4) (.tmp 29) (.const (.complex .f64 0 4607182418800017408)) (Ty 4)) (Ty 4), none⟩,
 ⟨some 5, .move (.tmp 30), none⟩])
 (.seq (.ops [⟨some 31, .loadN 4 (.tmp 7), none⟩,
 ⟨some 32, .loadN 4 (.tmp 3), none⟩,
 ⟨some 33, .eqv false [.i .i64, .i .i64, .i .i64, .s] (.tmp 31) (.tmp 32), none⟩])
 (.cond (.tmp 33)
 (.ops [⟨some 34, .move (.tmp 5), none⟩,
 ⟨some 35, .raw (.binOp .add (Ty 4) (.tmp 34) (.const (.complex .f64 4607182418800017408 0)) (Ty 4)) (Ty 4), none⟩,
 ⟨some 5, .move (.tmp 35), none⟩])
 (.skip))))
 (.skip))))))
 (.ops [⟨some 36, .bin .add (.tmp 13) (.const (.int .i64 1)), none⟩,
 ⟨some 13, .move (.tmp 36), none⟩])))))))
 (.seq (.ops [⟨some 37, .move (.tmp 5), none⟩,
 ⟨some 4, .move (.tmp 37), none⟩])
 (.ret))))⟩
/-- (*hurdle/learner.Learner).forget -/
def c_learner_Learner_forget (F : Nat → FuncId) (Ty : Nat → TypeId) : IFunc := ⟨20, [],
 .seq (.ops [⟨some 5, .move (.tmp 0), none⟩,
 ⟨some 6, .nilCheck (.tmp 5), none⟩,
 ⟨some 7, .fieldAddr 0 (.tmp 6), none⟩,
 ⟨some 8, .load1 (.tmp 7), none⟩,
 ⟨some 9, .move (.const (.int .i64 0)), none⟩])
 (.block 0 (.loop (.seq (.ops [⟨some 10, .bin .lss (.tmp 9) (.tmp 8), none⟩])
 (.seq (.cond (.tmp 10)
 (.skip)
 (.exit 0))
 (.seq (.block 1 (.seq (.ops [⟨some 11, .move (.tmp 9), none⟩,
 ⟨some 4, .move (.tmp 11), none⟩])
 (.ops [⟨some 12, .move (.tmp 0), none⟩,
 ⟨some 13, .nilCheck (.tmp 12), none⟩,
 ⟨some 14, .fieldAddr 3 (.tmp 13), none⟩,
 ⟨some 15, .load1 (.tmp 14), none⟩,
 ⟨some 16, .move (.tmp 1), none⟩,
 ⟨some 17, .move (.tmp 4), none⟩,
 ⟨some 18, .build [.int .i64 0, .int .i64 0] [((0, 1), .tmp 16), ((1, 1), .tmp 17)], none⟩,
 ⟨none, .delete (Ty 3) (.tmp 15) (.tmp 18), none⟩])))
 (.ops [⟨some 19, .bin .add (.tmp 9) (.const (.int .i64 1)), none⟩,
 ⟨some 9, .move (.tmp 19), none⟩]))))))⟩
/-- A context has these functions. -/
structure HasLearner (c : Ctx) : Prop where
 learner_New : c.IP (c.F 81) = some (c_learner_New c.F c.Ty)
 learner_Learner_Hear : c.IP (c.F 83) = some (c_learner_Learner_Hear c.F c.Ty)
 learner_Learner_Tell : c.IP (c.F 84) = some (c_learner_Learner_Tell c.F c.Ty)
 learner_Learner_Trim : c.IP (c.F 85) = some (c_learner_Learner_Trim c.F c.Ty)
 learner_Learner_Base : c.IP (c.F 86) = some (c_learner_Learner_Base c.F c.Ty)
 learner_Learner_Log : c.IP (c.F 87) = some (c_learner_Learner_Log c.F c.Ty)
 learner_Learner_Next : c.IP (c.F 88) = some (c_learner_Learner_Next c.F c.Ty)
 learner_Learner_may : c.IP (c.F 89) = some (c_learner_Learner_may c.F c.Ty)
 learner_Learner_tally : c.IP (c.F 90) = some (c_learner_Learner_tally c.F c.Ty)
 learner_Learner_forget : c.IP (c.F 91) = some (c_learner_Learner_forget c.F c.Ty)

end Go.Proofs.YtpbbjfighohokaaI
namespace Go.Proofs.YtpbbjfighohokaaI
attribute [local simp] J0 J1 J2 J3 J4 J5 J6 J7 J8 J9 Ja Jb Jc Jd Je Jf Jg Jh Ji Jj Jk Jl Jm Jn Jo Jp Jq Jr Js Jt Ju Jv Jw Jx Jy Jz JA JB JC JD JE JF JG JH JI JJ JK JL JM JN JO JP JQ JR JS stillI IOp.kind JT JU JV JW JX JY JZ Y0 Y1 Y2 Y3 Y4 Y5 Y6 Y7 Y8 Y9 Ya Yb Yc Yd Ye Yf Yg Yh Yi Yj Yk Yl Ym Yn Yo Yp Yq ial Yr Ys Yt Yu Yv Yw Yx Yy ires iresL ires1 Yz YA YB YC YD YE bin2 YF YG YH YI YJ YK YL YM YN YO YP YQ YR YS YT YU un1 shOk eqL eq1 fillL putAt IHeap.load1 IHeap.loadL IHeap.storeL YV YW YX YY YZ B0 B1 B2 B3 B4 B5 B6 B7 B8 B9 Ba Bb Bc Bd Be Bf Bg Bh Bi Bj Bk Bl Bm Bn Bo Bp
set_option linter.unusedSimpArgs false
set_option linter.unusedVariables false
open Go

structure Lr where
  n : Int
  base : Int
  told : Int → Option ByteArray
  votes : Int × Int → Option VoteD
def Lr.ok (l : Lr) : Prop := 1 ≤ l.n ∧ l.n ≤ 7 ∧ 0 ≤ l.base ∧ l.base ≤ 1024 ∧ ∀ s, l.told s ≠ none → l.base ≤ s ∧ s < 1024

/-- A learner, where it stands. -/
structure IsL (H : IHeap) (p r1 r2 : Nat) (l : Lr) : Prop where
  lt : p < H.next
  ok : l.ok
  get : H.get p = some (.cells [.int .i64 l.n, .int .i64 l.base, .map (some r1), .map (some r2)] false)
  told : IsMap H r1 kI gS l.told
  votes : IsMap H r2 kP vV l.votes
  ne : r1 ≠ r2

theorem IsL.ne1 {H : IHeap} {p r1 r2 : Nat} {l : Lr} (h : IsL H p r1 r2 l) : p ≠ r1 := h.told.ne_cells h.get
theorem IsL.ne2 {H : IHeap} {p r1 r2 : Nat} {l : Lr} (h : IsL H p r1 r2 l) : p ≠ r2 := h.votes.ne_cells h.get
theorem IsL.le {H H' : IHeap} {p r1 r2 : Nat} {l : Lr} (h : IsL H p r1 r2 l) (hl : H.le H') : IsL H' p r1 r2 l :=
  ⟨Nat.lt_of_lt_of_le h.lt hl.next, h.ok, (hl.get p h.lt).trans h.get, h.told.le hl, h.votes.le hl, h.ne⟩

def mayB (l : Lr) (s : Int) (v : ByteArray) : Bool := decide (l.base ≤ s) && (decide (s < 1024) && (decide (v.size ≤ 4096) && (l.told s).isNone))
/-- The least slot that is not told. -/
def IsNext (l : Lr) (s : Int) : Prop := l.base ≤ s ∧ s ≤ 1024 ∧ l.told s = none ∧ ∀ t, l.base ≤ t → t < s → l.told t ≠ none

theorem IsNext.uniq {l : Lr} {a b : Int} (h : IsNext l a) (k : IsNext l b) : a = b := by
  obtain ⟨h1, h2, h3, h4⟩ := h
  obtain ⟨k1, k2, k3, k4⟩ := k
  rcases Int.lt_trichotomy a b with x | x | x
  · exact absurd h3 (k4 a h1 x)
  · exact x
  · exact absurd k3 (h4 b k1 x)
def Lr.tell (l : Lr) (s : Int) (v : ByteArray) : Lr := { l with told := fun s' => if s = s' then some v else l.told s', votes := fun k => if k.1 = s ∧ 0 ≤ k.2 ∧ k.2 < l.n then none else l.votes k }
theorem Lr.ok.tell {l : Lr} (h : l.ok) {s : Int} {v : ByteArray} (hm : mayB l s v = true) : (l.tell s v).ok := by
  obtain ⟨h1, h2, h3, h4, h5⟩ := h
  refine ⟨h1, h2, h3, h4, fun t ht => ?_⟩
  simp only [Lr.tell] at ht ⊢
  simp only [mayB, Bool.and_eq_true, decide_eq_true_eq] at hm
  by_cases hs : s = t
  · subst hs; omega
  · rw [if_neg hs] at ht; exact h5 t ht

/-- What a context knows of a learner's types. -/
structure LearnT (c : Ctx) : Prop where
  ki : KeyOf c.P (c.Ty 2) kI
  kp : KeyOf c.P (c.Ty 3) kP

section
variable (c : Ctx) (hc : HasLearner c) (hT : LearnT c) {H : IHeap} {K : Value → IHeap → Prop}

include hc hT in
theorem may_ok {p r1 r2 : Nat} {l : Lr} {s : Int} {v : ByteArray} (h : IsL H p r1 r2 l) (hK : K (.bool (mayB l s v)) H) : c.C (c.F n_learner_Learner_may) [.pointer (some ⟨p, 0, none⟩), .int .i64 s, .string v] H K := by
  refine c.enter hc.learner_Learner_may rfl ?_
  have hg := h.get
  have hv : v.data.size = v.size := rfl
  unfold mayB at hK
  by_cases h1 : s < l.base
  · have : ¬ l.base ≤ s := by omega
    simp only [this, decide_false, Bool.false_and] at hK
    simp -implicitDefEqProofs [c_learner_Learner_may, nilOf, hg, h1]
    exact hK
  · have h1' : l.base ≤ s := by omega
    by_cases h2 : 1024 ≤ s
    · have : ¬ s < 1024 := by omega
      simp only [this, decide_false, Bool.false_and, Bool.and_false] at hK
      simp -implicitDefEqProofs [c_learner_Learner_may, nilOf, hg, h1, h2]
      exact hK
    · have h2' : s < 1024 := by omega
      by_cases h3 : 4096 < v.size
      · have : ¬ v.size ≤ 4096 := by omega
        have h3' : (4096 : Int) < (v.size : Int) := by omega
        simp only [this, decide_false, Bool.false_and, Bool.and_false] at hK
        simp -implicitDefEqProofs [c_learner_Learner_may, nilOf, hg, h1, h2, hv, h3, h3']
        exact hK
      · have h3' : ¬ (4096 : Int) < (v.size : Int) := by omega
        have h4 : v.size ≤ 4096 := by omega
        simp only [h1', h2', h4, decide_true, Bool.true_and] at hK
        have hlk := fun z => h.told.look hT.ki s z true
        simp only [kI] at hlk
        simp -implicitDefEqProofs [c_learner_Learner_may, nilOf, hg, h1, h2, hv, h3, h3', hlk]
        cases ht : l.told s with
        | none => rw [ht] at hK; simp -implicitDefEqProofs []; exact hK
        | some x => rw [ht] at hK; simp -implicitDefEqProofs []; exact hK

include hc hT in
theorem LNext_ok {p r1 r2 : Nat} {l : Lr} (h : IsL H p r1 r2 l) (hK : ∀ s, IsNext l s → K (.int .i64 s) H) : c.C (c.F n_learner_Learner_Next) [.pointer (some ⟨p, 0, none⟩)] H K := by
  refine c.enter hc.learner_Learner_Next rfl ?_
  have hg := h.get
  obtain ⟨k1, k2, k3, k4, k5⟩ := h.ok
  simp -implicitDefEqProofs [c_learner_Learner_Next, nilOf, hg]
  refine loop_nat c.mono (fun m T H' => ∃ s : Int, H' = H ∧ l.base ≤ s ∧ s ≤ 1024 ∧ m = (1024 - s).toNat ∧ T 0 = .pointer (some ⟨p, 0, none⟩) ∧ T 3 = .int .i64 s ∧ ∀ t, l.base ≤ t → t < s → l.told t ≠ none) (1024 - l.base).toNat ?_ ?_
  · exact ⟨l.base, rfl, by omega, by omega, rfl, by simp -implicitDefEqProofs [], by simp -implicitDefEqProofs [], fun t h1 h2 => by omega⟩
  · rintro m T H' ⟨s, rfl, hs1, hs2, rfl, t0, t3, hall⟩
    have hlk := fun z => h.told.look hT.ki s z true
    simp only [kI] at hlk
    simp -implicitDefEqProofs [t0, t3, hg, hlk]
    cases ht : l.told s with
    | none =>
      simp -implicitDefEqProofs [t3]
      exact hK s ⟨hs1, hs2, ht, hall⟩
    | some x =>
      have := k5 s (by rw [ht]; simp)
      have hw : IntKind.i64.wrap (s + 1) = s + 1 := wrap64 (by omega) (by omega)
      simp -implicitDefEqProofs [hw, t3]
      refine ⟨_, by omega, s + 1, by omega, by omega, rfl, t0, rfl, fun t h1 h2 => ?_⟩
      by_cases he : t = s
      · subst he; rw [ht]; simp
      · exact hall t h1 (by omega)

include hc in
theorem LBase_ok {p r1 r2 : Nat} {l : Lr} (h : IsL H p r1 r2 l) (hK : K (.int .i64 l.base) H) : c.C (c.F n_learner_Learner_Base) [.pointer (some ⟨p, 0, none⟩)] H K := by
  refine c.enter hc.learner_Learner_Base rfl ?_
  have hg := h.get
  simp -implicitDefEqProofs [c_learner_Learner_Base, nilOf, hg]
  exact hK

include hc hT in
theorem forget_ok {p r1 r2 : Nat} {l : Lr} {s : Int} (h : IsL H p r1 r2 l)
    (hK : ∀ H', IHeap.upd [r2] H H' → IsL H' p r1 r2 { l with votes := fun k => if k.1 = s ∧ 0 ≤ k.2 ∧ k.2 < l.n then none else l.votes k } → K (.tuple #[]) H') :
    c.C (c.F n_learner_Learner_forget) [.pointer (some ⟨p, 0, none⟩), .int .i64 s] H K := by
  refine c.enter hc.learner_Learner_forget rfl ?_
  have hg := h.get
  have hp := h.lt
  have hne := h.ne2
  obtain ⟨k1, k2, k3, k4, k5⟩ := h.ok
  simp -implicitDefEqProofs [c_learner_Learner_forget, hg]
  refine loop_nat c.mono (fun m T H' => ∃ i : Nat, (i : Int) ≤ l.n ∧ m = (l.n - i).toNat ∧ T 0 = .pointer (some ⟨p, 0, none⟩) ∧ T 1 = .int .i64 s ∧ T 8 = .int .i64 l.n ∧ T 9 = .int .i64 i ∧ IHeap.upd [r2] H H' ∧
    IsMap H' r2 kP vV fun k => if k.1 = s ∧ 0 ≤ k.2 ∧ k.2 < (i : Int) then none else l.votes k) l.n.toNat ?_ ?_
  · refine ⟨0, by omega, by omega, ?_⟩
    simp -implicitDefEqProofs []
    refine ⟨IHeap.upd_refl _ _, ?_⟩
    have : (fun k : Int × Int => if k.1 = s ∧ 0 ≤ k.2 ∧ k.2 < 0 then none else l.votes k) = l.votes := by
      funext k; rw [if_neg (by omega)]
    rw [this]; exact h.votes
  · rintro m T H' ⟨i, hi, rfl, t0, t1, t8, t9, hu, hm⟩
    have hg' := (hu.get p hp (by simpa using hne)).trans hg
    by_cases hin : (i : Int) < l.n
    · obtain ⟨o, e, hm'⟩ := hm.del hT.kp (s, (i : Int))
      have hw : IntKind.i64.wrap ((i : Int) + 1) = (i : Int) + 1 := wrap64 (by omega) (by omega)
      simp only [kP] at e
      simp -implicitDefEqProofs [t0, t1, t8, t9, hin, hg', fillL, putAt, e, hw]
      refine ⟨l.n.toNat - (i + 1), by omega, i + 1, by omega, rfl, by omega, hu.set (.inr (by simp)) _, ?_⟩
      have : (fun k : Int × Int => if k.1 = s ∧ 0 ≤ k.2 ∧ k.2 < ((i + 1 : Nat) : Int) then none else l.votes k) = fun k' => if (s, (i : Int)) = k' then none else if k'.1 = s ∧ 0 ≤ k'.2 ∧ k'.2 < (i : Int) then none else l.votes k' := by
        funext k
        by_cases hk : (s, (i : Int)) = k
        · subst hk; rw [if_pos rfl, if_pos (show s = s ∧ (0 : Int) ≤ (i : Int) ∧ (i : Int) < ((i + 1 : Nat) : Int) from ⟨rfl, by omega, by omega⟩)]
        · rw [if_neg hk]
          by_cases h2 : k.1 = s ∧ 0 ≤ k.2 ∧ k.2 < (i : Int)
          · rw [if_pos h2, if_pos (by omega)]
          · rw [if_neg h2, if_neg]
            rintro ⟨a1, a2, a3⟩
            apply hk
            obtain ⟨x, y⟩ := k
            simp only at a1 a2 a3 h2
            have : y = i := by omega
            rw [a1, this]
      rw [this]; exact hm'
    · have hie : (i : Int) = l.n := by omega
      simp -implicitDefEqProofs [t0, t1, t8, t9, hin]
      rw [hie] at hm
      refine hK _ hu ⟨Nat.lt_of_lt_of_le hp hu.next, h.ok, hg', h.told.same hu.next (hu.get r1 h.told.lt (by simpa using h.ne)), hm, h.ne⟩

include hc hT in
theorem Tell_ok {p r1 r2 : Nat} {l : Lr} {s : Int} {v : ByteArray} (h : IsL H p r1 r2 l)
    (hK : ∀ H', IHeap.upd [p, r1, r2] H H' → IsL H' p r1 r2 (if mayB l s v = true then l.tell s v else l) → K (.bool (mayB l s v)) H') :
    c.C (c.F n_learner_Learner_Tell) [.pointer (some ⟨p, 0, none⟩), .int .i64 s, .string v] H K := by
  refine c.enter hc.learner_Learner_Tell rfl ?_
  have hg := h.get
  simp -implicitDefEqProofs [c_learner_Learner_Tell]
  refine call_of (may_ok c hc hT h ?_)
  by_cases hm : mayB l s v = true
  · rw [if_pos hm, hm] at hK
    obtain ⟨o, e, hm'⟩ := h.told.put hT.ki s v
    simp only [kI, gS] at e
    simp -implicitDefEqProofs [hm, hg, e]
    have hl' : IsL (H.set r1 o) p r1 r2 { l with told := fun s' => if s = s' then some v else l.told s' } := by
      refine ⟨h.lt, ?_, by rw [YW, if_neg h.ne1]; exact hg, hm', h.votes.same (Nat.le_refl _) (by rw [YW, if_neg (Ne.symm h.ne)]), h.ne⟩
      exact h.ok.tell hm
    refine call_of (forget_ok c hc hT hl' fun H' u' w' => ?_)
    simp -implicitDefEqProofs []
    refine hK _ ?_ w'
    exact ((IHeap.upd_refl _ H).set (.inr (by simp)) o).trans ⟨u'.next, fun b hb hs => u'.get b hb (by simp at hs ⊢; exact hs.2.2)⟩
  · rw [if_neg hm] at hK
    have hmf : mayB l s v = false := by simpa using hm
    simp -implicitDefEqProofs [hmf]
    rw [hmf] at hK
    exact hK _ (IHeap.upd_refl _ _) h

def Lr.trim (l : Lr) (b : Int) : Lr := { l with base := b, told := fun s => if l.base ≤ s ∧ s < b then none else l.told s }
include hc hT in
theorem Trim_ok {p r1 r2 : Nat} {l : Lr} {u : Int} (h : IsL H p r1 r2 l)
    (hK : ∀ H' b, IHeap.upd [p, r1, r2] H H' → l.base ≤ b → b ≤ 1024 → (∀ s, IsNext l s → b = if (if s < u then s else u) < l.base then l.base else (if s < u then s else u)) → IsL H' p r1 r2 (l.trim b) → K (.int .i64 (b - l.base)) H') :
    c.C (c.F n_learner_Learner_Trim) [.pointer (some ⟨p, 0, none⟩), .int .i64 u] H K := by
  refine c.enter hc.learner_Learner_Trim rfl ?_
  have hg := h.get
  obtain ⟨k1, k2, k3, k4, k5⟩ := h.ok
  simp -implicitDefEqProofs [c_learner_Learner_Trim, nilOf, hg]
  refine call_of (LNext_ok c hc hT h fun s hs => ?_)
  have hsn := hs
  obtain ⟨s1, s2, s3, s4⟩ := hs
  obtain ⟨U, hU⟩ : ∃ U, U = if s < u then s else u := ⟨_, rfl⟩
  have hUs : U ≤ 1024 := by rw [hU]; split <;> omega
  have hle : ∀ b, l.base ≤ b → b ≤ 1024 → (l.trim b).ok := fun b h1 h2 => ⟨k1, k2, by simp only [Lr.trim]; omega, h2, fun t ht => by
    simp only [Lr.trim] at ht ⊢
    by_cases hb : l.base ≤ t ∧ t < b
    · rw [if_pos hb] at ht; exact absurd rfl ht
    · rw [if_neg hb] at ht
      have := k5 t ht
      omega⟩
  simp -implicitDefEqProofs [← hU]
  refine loop_nat c.mono (fun m T H' => ∃ b : Int, l.base ≤ b ∧ (b ≤ U ∨ b = l.base) ∧ b ≤ 1024 ∧ m = (U - b).toNat ∧ T 0 = .pointer (some ⟨p, 0, none⟩) ∧ T 1 = .int .i64 U ∧ T 5 = .int .i64 (b - l.base) ∧ IHeap.upd [p, r1, r2] H H' ∧ IsL H' p r1 r2 (l.trim b)) (U - l.base).toNat ?_ ?_
  · refine ⟨l.base, by omega, .inr rfl, by omega, rfl, ?_⟩
    simp -implicitDefEqProofs []
    refine ⟨IHeap.upd_refl _ _, ?_⟩
    have : l.trim l.base = l := by
      unfold Lr.trim
      congr 1
      funext s; rw [if_neg (by omega)]
    rw [this]; exact h
  · rintro m T H' ⟨b, hb1, hb2, hb3, rfl, t0, t1, t5, hu, hl⟩
    have hg' := hl.get
    simp only [Lr.trim] at hg'
    by_cases hbU : b < U
    · have hw : IntKind.i64.wrap (b + 1) = b + 1 := wrap64 (by omega) (by omega)
      have hw2 : IntKind.i64.wrap (b - l.base + 1) = b - l.base + 1 := wrap64 (by omega) (by omega)
      obtain ⟨o, e, hm'⟩ := hl.told.del hT.ki b
      simp only [kI] at e
      have hg2 : (H'.set r1 o).get p = some (.cells [.int .i64 l.n, .int .i64 b, .map (some r1), .map (some r2)] false) := by rw [YW, if_neg hl.ne1]; exact hg'
      have hn1 := hl.ne1
      simp -implicitDefEqProofs [t0, t1, t5, hg', hbU, e, hn1, hw, hw2]
      refine ⟨(U - (b + 1)).toNat, by omega, b + 1, by omega, .inl (by omega), by omega, rfl, by omega, (hu.set (.inr (by simp)) _).set (.inr (by simp)) _, ?_⟩
      refine ⟨hl.lt, hle _ (by omega) (by omega), by rw [YW, if_pos rfl]; rfl, ?_, ?_, hl.ne⟩
      · have h1 := hm'.same (H' := (H'.set r1 o).set p (.cells [.int .i64 l.n, .int .i64 (b + 1), .map (some r1), .map (some r2)] false)) (Nat.le_refl _) (by rw [YW, if_neg (Ne.symm hn1)])
        have : (fun k' => if b = k' then none else (l.trim b).told k') = (l.trim (b + 1)).told := by
          funext k
          simp only [Lr.trim]
          by_cases h1 : b = k
          · rw [if_pos h1, if_pos (by omega)]
          · rw [if_neg h1]
            by_cases h2 : l.base ≤ k ∧ k < b
            · rw [if_pos h2, if_pos (by omega)]
            · rw [if_neg h2, if_neg (by omega)]
        rw [this] at h1; exact h1
      · exact hl.votes.same (Nat.le_refl _) (by rw [YW, if_neg (Ne.symm hl.ne2), YW, if_neg (Ne.symm hl.ne)])
    · simp -implicitDefEqProofs [t0, t1, t5, hg', hbU]
      exact hK _ b hu hb1 hb3 (fun s' hs' => by rw [hs'.uniq hsn, ← hU]; split <;> omega) hl

include hc hT in
theorem Log_ok {p r1 r2 : Nat} {l : Lr} {u : Int} (h : IsL H p r1 r2 l)
    (hK : ∀ (nx : Int) (v : Value) (vals : List ByteArray) H', IsNext l nx → H.le H' → Grow H' H.next 1 v (vals.map fun x => [.string x]) → vals.length = (nx - (if u < l.base then l.base else u)).toNat →
      (∀ (i : Nat) (hi : i < vals.length), l.told ((if u < l.base then l.base else u) + i) = some vals[i]) → K v H') :
    c.C (c.F n_learner_Learner_Log) [.pointer (some ⟨p, 0, none⟩), .int .i64 u] H K := by
  refine c.enter hc.learner_Learner_Log rfl ?_
  have hg := h.get
  have hp := h.lt
  obtain ⟨k1, k2, k3, k4, k5⟩ := h.ok
  obtain ⟨st, hst⟩ : ∃ st, st = if u < l.base then l.base else u := ⟨_, rfl⟩
  have hst2 : l.base ≤ st := by rw [hst]; split <;> omega
  rw [← hst] at hK
  have hmx : (if l.base > u then l.base else u) = st := by rw [hst]
  simp -implicitDefEqProofs [c_learner_Learner_Log, nilOf, hg, ← hst]
  refine loop_nat c.mono (fun m T H' => ∃ (i : Nat) (v : Value) (vals : List ByteArray), m = (1024 - (st + i)).toNat ∧ (i = 0 ∨ ∀ nx, IsNext l nx → st + i ≤ nx) ∧ T 0 = .pointer (some ⟨p, 0, none⟩) ∧ T 5 = v ∧ T 6 = .int .i64 (st + i) ∧ H.le H' ∧
    Grow H' H.next 1 v (vals.map fun x => [.string x]) ∧ vals.length = i ∧ ∀ (j : Nat) (hj : j < vals.length), l.told (st + j) = some vals[j]) (1024 - st).toNat ?_ ?_
  · refine ⟨0, .slice none 0 0, [], by omega, .inl rfl, ?_⟩
    simp -implicitDefEqProofs []
    exact ⟨IHeap.le_refl _, Grow.nil _ _ _⟩
  · rintro m T H' ⟨i, v, vals, rfl, hi1, t0, t5, t6, hle, hgr, hvl, hall⟩
    simp -implicitDefEqProofs [t0, t5, t6]
    refine call_of (LNext_ok c hc hT (h.le hle) fun nx hnx => ?_)
    have hnx' := hnx
    obtain ⟨x1, x2, x3, x4⟩ := hnx'
    by_cases hlt : st + i < nx
    · have hg' := (h.le hle).get
      have hlk := fun z => (h.le hle).told.look hT.ki (st + i) z false
      simp only [kI] at hlk
      have hw : IntKind.i64.wrap (st + (i : Int) + 1) = st + (i : Int) + 1 := wrap64 (by omega) (by omega)
      cases ht : l.told (st + i) with
      | none => exact absurd ht (x4 _ (by omega) hlt)
      | some x =>
        rw [ht] at hlk
        simp only [Bool.false_eq_true, if_false, gS] at hlk
        have hnn := hle.next
        simp -implicitDefEqProofs [t0, t5, t6, hlt, hg', hlk, lenOfI, firstI, IHeap.loadL]
        obtain ⟨v3, H3, e3, o3, k3⟩ := (hgr.le (H'.le_alloc (.cells [.string x] false))).append1 (bytes := 16) (new := [.string x]) (by simp only [YX]; omega) (by omega) (by omega) (by simp; omega) (by simp; omega) rfl rfl
        simp -implicitDefEqProofs [e3, t6, hw, t0]
        refine ⟨(1024 - (st + ((i + 1 : Nat) : Int))).toNat, by omega, i + 1, rfl, .inr fun nx' h' => by (have := h'.uniq hnx); omega, by omega, hle.then (((H'.le_alloc _).keep (by omega)).trans k3) (Nat.le_refl _), vals ++ [x], by rw [List.map_append]; exact o3, by simp [hvl], ?_⟩
        intro j hj
        by_cases hj2 : j < vals.length
        · rw [List.getElem_append_left hj2]; exact hall j hj2
        · have : j = vals.length := by simp at hj; omega
          subst this
          rw [List.getElem_append_right (by omega)]
          simp only [Nat.sub_self, List.getElem_cons_zero]
          rw [hvl]; exact ht
    · simp -implicitDefEqProofs [t0, t5, t6, hlt]
      refine hK nx v vals H' ⟨x1, x2, x3, x4⟩ hle hgr ?_ hall
      rcases hi1 with hi1 | hi1
      · omega
      · have := hi1 nx hnx
        omega

end

/-! ### who voted -/

/-- Small whole numbers, as 64-bit floats. -/
def fl (n : Nat) : Nat := [0, 4607182418800017408, 4611686018427387904, 4613937818241073152, 4616189618054758400, 4617315517961601024, 4618441417868443648, 4619567317775286272].getD n 0
def cx (a b : Nat) : Value := .complex .f64 (fl a) (fl b)
/-- What a context knows of the sums of a count. -/
structure CountT (c : Ctx) : Prop where
  one : ∀ (ρ : Operand → Value) (a b : Nat), a ≤ 6 → b ≤ 6 → ρ (.tmp 29) = cx a b → ρ (.const (.complex .f64 0 4607182418800017408)) = .complex .f64 0 4607182418800017408 →
    pureRun c.P (execOp ρ ⟨none, .binOp .add (c.Ty 4) (.tmp 29) (.const (.complex .f64 0 4607182418800017408)) (c.Ty 4), c.Ty 4, "", #[], none⟩) = some (.value (cx a (b + 1)))
  two : ∀ (ρ : Operand → Value) (a b : Nat), a ≤ 6 → b ≤ 7 → ρ (.tmp 34) = cx a b → ρ (.const (.complex .f64 4607182418800017408 0)) = .complex .f64 4607182418800017408 0 →
    pureRun c.P (execOp ρ ⟨none, .binOp .add (c.Ty 4) (.tmp 34) (.const (.complex .f64 4607182418800017408 0)) (c.Ty 4), c.Ty 4, "", #[], none⟩) = some (.value (cx (a + 1) b))
  re : ∀ (ρ : Operand → Value) (a b : Nat), a ≤ 7 → b ≤ 7 → ρ (.tmp 65) = cx a b →
    pureRun c.P (execOp ρ ⟨none, .call ⟨.builtin .real, #[.tmp 65], #[c.Ty 4]⟩, c.Ty 5, "", #[], none⟩) = some (.value (.float .f64 (fl a)))
  int : ∀ (ρ : Operand → Value) (a : Nat), a ≤ 7 → ρ (.tmp 66) = .float .f64 (fl a) →
    pureRun c.P (execOp ρ ⟨none, .convert (c.Ty 5) (c.Ty 2) (.tmp 66), c.Ty 2, "", #[], none⟩) = some (.value (.int .i64 a))

/-- So many of the first nodes voted for a vote. -/
def cnt (m : Int × Int → Option VoteD) (v : VoteD) : Nat → Nat
  | 0 => 0
  | i + 1 => cnt m v i + (if m (v.slot, (i : Int)) = some v then 1 else 0)
theorem cnt_le (m : Int × Int → Option VoteD) (v : VoteD) : ∀ i, cnt m v i ≤ i
  | 0 => Nat.le_refl _
  | i + 1 => by have := cnt_le m v i; unfold cnt; split <;> omega
def thr (m : Int × Int → Option VoteD) (v : VoteD) : Nat → Nat
  | 0 => 0
  | i + 1 => thr m v i + (if m (v.slot, (i : Int)) = none then 0 else 1)
theorem thr_le (m : Int × Int → Option VoteD) (v : VoteD) : ∀ i, thr m v i ≤ i
  | 0 => Nat.le_refl _
  | i + 1 => by have := thr_le m v i; unfold thr; split <;> omega

theorem raw_of {P : Program} {C : CallT} {o : Op} {ty : TypeId} {d : Option Nat} {os : List IOper} {K : Env → IHeap → Prop} {T : Env} {H : IHeap} {v : Value} (h : pureRun P (execOp (ev T) ⟨none, o, ty, "", #[], none⟩) = some (.value v))
    (ho : o.operands.toList.all (fun x => scal (ev T x)) = true) (hs : scal v = true) (hk : iwpOps P C os K (T.put d v) H) : runO P C (ird P T H (.raw o ty)) d os K T H := by
  rw [ird.eq_1, if_pos ho, h]
  simp only [hs, if_true]
  exact ⟨v, rfl, hk⟩
theorem draw_of {P : Program} {C : CallT} {o : Op} {ty : TypeId} {d : Option Nat} {st : List IOper} {os : List (IOper × List IOper)} {K : Env → IHeap → Prop} {T : Env} {H : IHeap} {v : Value} (h : pureRun P (execOp (ev T) ⟨none, o, ty, "", #[], none⟩) = some (.value v))
    (ho : o.operands.toList.all (fun x => scal (ev T x)) = true) (hs : scal v = true) (hk : stillAll P (T.put d v) H st ∧ iwpDraw P C os K (T.put d v) H) : dO P C (ird P T H (.raw o ty)) d st os K T H := by
  rw [ird.eq_1, if_pos ho, h]
  simp only [hs, if_true]
  exact ⟨v, rfl, hk⟩

section
variable (c : Ctx) (hc : HasLearner c) (hT : LearnT c) (hN : CountT c) {H : IHeap} {K : Value → IHeap → Prop}

include hc hT hN in
theorem tally_ok {p r1 r2 : Nat} {l : Lr} {v : VoteD} (h : IsL H p r1 r2 l) (hK : ∀ H', H.le H' → K (cx (cnt l.votes v l.n.toNat) (thr l.votes v l.n.toNat)) H') :
    c.C (c.F n_learner_Learner_tally) [.pointer (some ⟨p, 0, none⟩), vV v] H K := by
  refine c.enter hc.learner_Learner_tally rfl ?_
  have hg := h.get
  have hp := h.lt
  have hpn : p ≠ H.next := by omega
  obtain ⟨k1, k2, k3, k4, k5⟩ := h.ok
  simp -implicitDefEqProofs [c_learner_Learner_tally, vV, hg, hpn]
  refine loop_nat c.mono (fun m T H' => ∃ i : Nat, (i : Int) ≤ l.n ∧ m = l.n.toNat - i ∧ T 0 = .pointer (some ⟨p, 0, none⟩) ∧ T 3 = .pointer (some ⟨H.next, 0, none⟩) ∧ T 5 = cx (cnt l.votes v i) (thr l.votes v i) ∧ T 12 = .int .i64 l.n ∧ T 13 = .int .i64 i ∧
    H.le H' ∧ H.next < H'.next ∧ H'.get H.next = some (.cells [.int .i64 v.slot, .int .i64 v.a, .int .i64 v.n, .string v.val] false)) l.n.toNat ?_ ?_
  · refine ⟨0, by omega, rfl, ?_⟩
    simp -implicitDefEqProofs []
    exact ⟨rfl, H.le_alloc _⟩
  · rintro m T H' ⟨i, hi, rfl, t0, t3, t5, t12, t13, hle, hn, hgv⟩
    have hg' := (h.le hle).get
    by_cases hin : (i : Int) < l.n
    · have hw : IntKind.i64.wrap ((i : Int) + 1) = (i : Int) + 1 := wrap64 (by omega) (by omega)
      have hlk := fun z => (h.le hle).votes.look hT.kp (v.slot, (i : Int)) z true
      simp only [kP] at hlk
      have c1 := cnt_le l.votes v i
      have c2 := thr_le l.votes v i
      have hnn : H'.next ≠ H.next := by omega
      simp -implicitDefEqProofs [t0, t3, t5, t12, t13, hin, hg', hgv, hlk, hnn]
      have hle2 : ∀ x y, H.le ((H'.alloc x).set H'.next y) := fun x y => (hle.alloc _).set (by omega) _
      cases hx : l.votes (v.slot, (i : Int)) with
      | none =>
        have e1 : cnt l.votes v (i + 1) = cnt l.votes v i := by simp [cnt, hx]
        have e2 : thr l.votes v (i + 1) = thr l.votes v i := by simp [thr, hx]
        simp -implicitDefEqProofs [t0, t3, t5, t12, t13, hw, hgv, hnn, Ne.symm hnn]
        refine ⟨l.n.toNat - (i + 1), by omega, i + 1, by omega, rfl, by rw [e1, e2], by simp, hle2 _ _, by omega⟩
      | some x =>
        have e2 : thr l.votes v (i + 1) = thr l.votes v i + 1 := by simp [thr, hx]
        simp -implicitDefEqProofs [t0, t3, t5, t12, t13, hw, vV]
        refine raw_of (hN.one _ (cnt l.votes v i) (thr l.votes v i) (by omega) (by omega) (by simp -implicitDefEqProofs []) rfl) (by simp [Op.operands, Yz, YA, YC, cx, scal, scal1]) rfl ?_
        simp -implicitDefEqProofs [t0, t3, t5, t12, t13, hw, hgv, hnn, Ne.symm hnn]
        have heq : (decide (x.slot = v.slot) && (decide (x.a = v.a) && (decide (x.n = v.n) && decide (x.val = v.val)))) = decide (x = v) := by
          obtain ⟨a1, a2, a3, a4⟩ := x
          obtain ⟨b1, b2, b3, b4⟩ := v
          simp only [VoteD.mk.injEq]
          by_cases a1 = b1 <;> by_cases a2 = b2 <;> by_cases a3 = b3 <;> by_cases a4 = b4 <;> simp_all
        rw [heq]
        by_cases hxv : x = v
        · have e1 : cnt l.votes v (i + 1) = cnt l.votes v i + 1 := by simp [cnt, hx, hxv]
          simp only [hxv, decide_true]
          simp -implicitDefEqProofs []
          refine raw_of (hN.two _ (cnt l.votes v i) (thr l.votes v i + 1) (by omega) (by omega) (by simp -implicitDefEqProofs []) rfl) (by simp [Op.operands, Yz, YA, YC, cx, scal, scal1]) rfl ?_
          simp -implicitDefEqProofs [t0, t3, t5, t12, t13, hw, hgv, hnn, Ne.symm hnn]
          refine ⟨l.n.toNat - (i + 1), by omega, i + 1, by omega, rfl, by rw [e1, e2], by simp, hle2 _ _, by omega⟩
        · have e1 : cnt l.votes v (i + 1) = cnt l.votes v i := by simp [cnt, hx, hxv]
          simp only [hxv, decide_false]
          simp -implicitDefEqProofs [t0, t3, t5, t12, t13, hw, hgv, hnn, Ne.symm hnn]
          refine ⟨l.n.toNat - (i + 1), by omega, i + 1, by omega, rfl, by rw [e1, e2], by simp, hle2 _ _, by omega⟩
    · have hie : i = l.n.toNat := by omega
      simp -implicitDefEqProofs [t0, t3, t5, t12, t13, hin]
      rw [hie]
      exact hK _ hle

def Lr.vote (l : Lr) (fr : Int) (v : VoteD) : Lr := { l with votes := fun k => if (v.slot, fr) = k then some v else l.votes k }
/-- A vote is heard: a new one? -/
def freshB (l : Lr) (fr : Int) (v : VoteD) : Bool := mayB l v.slot v.val && (decide (0 ≤ fr) && (decide (fr < l.n) && (validB v.a v.n && match l.votes (v.slot, fr) with
  | some was => decide (cmpB was.a was.n v.a v.n < 0)
  | none => true)))
def Lr.hear (l : Lr) (fr : Int) (v : VoteD) : Lr × Bool :=
  if freshB l fr v = true then
    if (cnt (l.vote fr v).votes v l.n.toNat : Int) < quorumI l.n then (l.vote fr v, false) else ((l.vote fr v).tell v.slot v.val, true)
  else (l, false)

include hc hT hN in
theorem Hear_ok (hA : HasBalA c) (hB : HasBalB c) {p r1 r2 : Nat} {l : Lr} {fr : Int} {v : VoteD} (h : IsL H p r1 r2 l)
    (hK : ∀ H', IHeap.upd [p, r1, r2] H H' → IsL H' p r1 r2 (l.hear fr v).1 → K (.bool (l.hear fr v).2) H') :
    c.C (c.F n_learner_Learner_Hear) [.pointer (some ⟨p, 0, none⟩), .int .i64 fr, vV v] H K := by
  refine c.enter hc.learner_Learner_Hear rfl ?_
  have hp := h.lt
  have hpn : p ≠ H.next := by omega
  have hu0 : ∀ H', H.le H' → IHeap.upd [p, r1, r2] H H' := fun H' hl => hl.upd _
  have hg := h.get
  have bad : freshB l fr v = false → l.hear fr v = (l, false) := fun e => by unfold Lr.hear; rw [e]; rfl
  have hA1 := h.le (H.le_alloc (.cells [.int .i64 v.slot, .int .i64 v.a, .int .i64 v.n, .string v.val] false))
  obtain ⟨cT, hcT⟩ : ∃ cT : ICode, cT = (.seq (.draw [(⟨some 57, .move (.tmp 0), none⟩, []), (⟨some 58, .nilCheck (.tmp 57), none⟩, []), (⟨some 59, .fieldAddr 3 (.tmp 58), none⟩, []), (⟨some 60, .load1 (.tmp 59), none⟩, []), (⟨some 61, .loadN 2 (.tmp 7), none⟩, []), (⟨some 62, .loadN 4 (.tmp 5), none⟩, []), (⟨none, .mapUpdate (c.Ty 3) (.tmp 60) (.tmp 61) (.tmp 62), none⟩, [])]) (.seq (.seq (.draw [(⟨some 63, .move (.tmp 0), none⟩, []), (⟨some 64, .loadN 4 (.tmp 5), none⟩, []), (⟨some 68, .move (.tmp 0), none⟩, []), (⟨some 69, .nilCheck (.tmp 68), none⟩, []), (⟨some 70, .fieldAddr 0 (.tmp 69), none⟩, []), (⟨some 71, .load1 (.tmp 70), none⟩, []), (⟨some 65, .call (c.F 90) [.tmp 63, .tmp 64], none⟩, [⟨some 71, .load1 (.tmp 70), none⟩]), (⟨some 66, .raw (.call ⟨.builtin .real, #[.tmp 65], #[(c.Ty 4)]⟩) (c.Ty 5), none⟩, []), (⟨some 67, .raw (.convert (c.Ty 5) (c.Ty 2) (.tmp 66)) (c.Ty 2), none⟩, []), (⟨some 72, .call (c.F 7) [.tmp 71], none⟩, []), (⟨some 73, .bin .lss (.tmp 67) (.tmp 72), none⟩, [])]) (.cond (.tmp 73) (.seq (.ops [⟨some 6, .move (.const (.bool false)), none⟩]) (.ret)) (.skip))) (.seq (.ops [⟨some 74, .move (.tmp 0), none⟩, ⟨some 75, .fieldAddr 0 (.tmp 5), none⟩, ⟨some 76, .load1 (.tmp 75), none⟩, ⟨some 77, .fieldAddr 3 (.tmp 5), none⟩, ⟨some 78, .load1 (.tmp 77), none⟩, ⟨some 79, .call (c.F 84) [.tmp 74, .tmp 76, .tmp 78], none⟩, ⟨some 6, .move (.tmp 79), none⟩]) (.ret)))) := ⟨_, rfl⟩
  simp only [c_learner_Learner_Hear, ← hcT]
  simp -implicitDefEqProofs [vV]
  refine call_of (may_ok c hc hT hA1 ?_)
  by_cases hm : mayB l v.slot v.val = true
  · by_cases hf0 : fr < 0
    · have e := bad (by unfold freshB; have : ¬ 0 ≤ fr := by omega
                        simp [this])
      simp -implicitDefEqProofs [hm, hf0, hg, hpn]
      rw [e] at hK
      exact hK _ (hu0 _ (H.le_alloc _)) hA1
    · by_cases hfn : l.n ≤ fr
      · have e := bad (by unfold freshB; have : ¬ fr < l.n := by omega
                          simp [this])
        simp -implicitDefEqProofs [hm, hf0, hfn, hg, hpn]
        rw [e] at hK
        exact hK _ (hu0 _ (H.le_alloc _)) hA1
      · simp -implicitDefEqProofs [hm, hf0, hfn, hg, hpn]
        refine call_of (Valid_ok c hA fun H1 h1 => ?_)
        have hH1 : H.le H1 := (H.le_alloc _).trans h1
        have n1 := h1.next
        simp only [YX] at n1
        have g5 : H1.get H.next = some (.cells [.int .i64 v.slot, .int .i64 v.a, .int .i64 v.n, .string v.val] false) := by
          rw [h1.get _ (by simp only [YX]; omega)]; simp -implicitDefEqProofs []
        have hL1 := h.le hH1
        by_cases hv : validB v.a v.n = true
        · have hlk := fun z o1 o2 => (hL1.le ((H1.le_alloc o1).set (Nat.le_refl _) o2)).votes.look hT.kp (v.slot, fr) z true
          simp only [kP] at hlk
          have hgp := hL1.get
          have hpH1 : p ≠ H1.next := by omega
          have h51 : H.next ≠ H1.next := by omega
          simp -implicitDefEqProofs [hv, g5, hgp, hpH1, h51, hlk]
          have main : ∀ (T : Env) (H2 : IHeap), H.le H2 → freshB l fr v = true → T 0 = .pointer (some ⟨p, 0, none⟩) → T 1 = .int .i64 fr → T 5 = .pointer (some ⟨H.next, 0, none⟩) → T 7 = .pointer (some ⟨H1.next, 0, none⟩) → H1.next < H2.next →
              H2.get H.next = some (.cells [.int .i64 v.slot, .int .i64 v.a, .int .i64 v.n, .string v.val] false) → H2.get H1.next = some (.cells [.int .i64 v.slot, .int .i64 fr] false) → iwp c.P c.C cT (retR [.tmp 6] K) T H2 := by
            intro T H2 le2 hfr t0 t1 t5 t7 n2 g52 g7
            have hL2 := h.le le2
            have hput : ∃ o, putR c.P H2 (c.Ty 3) (.map (some r2)) (kP (v.slot, fr)) (vV v) = some (undef, H2.set r2 o) ∧ IsMap (H2.set r2 o) r2 kP vV fun k' => if (v.slot, fr) = k' then some v else l.votes k' := hL2.votes.put hT.kp (v.slot, fr) v
            obtain ⟨o, e, hm'⟩ := hput
            simp only [kP, vV] at e
            have hL3 : IsL (H2.set r2 o) p r1 r2 (l.vote fr v) := ⟨hL2.lt, hL2.ok, by rw [YW, if_neg hL2.ne2]; exact hL2.get, hL2.told.same (Nat.le_refl _) (by rw [YW, if_neg hL2.ne]), hm', hL2.ne⟩
            have hu3 : IHeap.upd [p, r1, r2] H (H2.set r2 o) := (hu0 _ le2).set (.inr (by simp)) _
            have n5 : r2 ≠ H.next := by have := h.votes.lt; omega
            have g5' : (H2.set r2 o).get H.next = some (.cells [.int .i64 v.slot, .int .i64 v.a, .int .i64 v.n, .string v.val] false) := by rw [YW, if_neg (Ne.symm n5)]; exact g52
            have hg3 := hL3.get
            have hg2 := hL2.get
            simp only [Lr.vote] at hg3
            subst hcT
            have hne2 := hL2.ne2
            simp -implicitDefEqProofs [t0, t1, t5, t7, hg2, g52, g7, e, hg3, g5', Ne.symm n5, hne2]
            refine dcall_of c.mono (tally_ok c hc hT hN (v := v) hL3 fun H4 h4 => ?_)
            have hg4 := (hL3.le h4).get
            simp only [Lr.vote] at hg4
            have c1 := cnt_le (l.vote fr v).votes v l.n.toNat
            have c2 := thr_le (l.vote fr v).votes v l.n.toNat
            have hn0 : (l.vote fr v).n = l.n := rfl
            simp only [hn0]
            have ln7 := h.ok.2.1
            have ln1 := h.ok.1
            simp -implicitDefEqProofs [stillI, hg4, t0, t1, t5, t7]
            refine draw_of (hN.re _ (cnt (l.vote fr v).votes v l.n.toNat) (thr (l.vote fr v).votes v l.n.toNat) (by omega) (by omega) (by simp -implicitDefEqProofs [])) (by show List.all [Operand.tmp 65] _ = true; simp [Yz, YC, cx, scal, scal1]) rfl ?_
            simp -implicitDefEqProofs []
            refine draw_of (hN.int _ (cnt (l.vote fr v).votes v l.n.toNat) (by omega) (by simp -implicitDefEqProofs [])) (by simp [Op.operands, Yz, YA, YC, cx, scal, scal1]) rfl ?_
            simp -implicitDefEqProofs []
            refine dcall_of c.mono (Quorum_ok c hB ?_)
            have g54 := (h4.get H.next (by simp only [YY]; omega)).trans g5'
            by_cases hq : (cnt (l.vote fr v).votes v l.n.toNat : Int) < quorumI l.n
            · have e : l.hear fr v = (l.vote fr v, false) := by unfold Lr.hear; rw [if_pos hfr, if_pos hq]
              simp -implicitDefEqProofs [hq]
              rw [e] at hK
              exact hK _ (hu3.trans (h4.upd _)) (hL3.le h4)
            · have e : l.hear fr v = ((l.vote fr v).tell v.slot v.val, true) := by unfold Lr.hear; rw [if_pos hfr, if_neg hq]
              have hm2 : mayB (l.vote fr v) v.slot v.val = true := hm
              simp -implicitDefEqProofs [hq, g54, t0, t5]
              refine call_of (Tell_ok c hc hT (hL3.le h4) fun H5 u5 w5 => ?_)
              rw [if_pos hm2] at w5
              rw [hm2]
              simp -implicitDefEqProofs []
              rw [e] at hK
              exact hK _ ((hu3.trans (h4.upd _)).trans u5) w5
          cases hx : l.votes (v.slot, fr) with
          | none =>
            have hfr : freshB l fr v = true := by
              have q1 : 0 ≤ fr := by omega
              have q2 : fr < l.n := by omega
              simp [freshB, hm, hv, hx, q1, q2]
            simp -implicitDefEqProofs []
            have q3 : H.next ≠ H1.next + 1 := by omega
            refine main _ _ ?_ hfr (by simp -implicitDefEqProofs []) (by simp -implicitDefEqProofs []) (by simp -implicitDefEqProofs []) (by simp -implicitDefEqProofs []) (by simp only [YX, YY]; omega) (by simp -implicitDefEqProofs [g5, h51, q3]) (by simp -implicitDefEqProofs [])
            exact (((hH1.alloc _).set (by omega) _).alloc _).set (by omega) _
          | some was =>
            have q3 : H.next ≠ H1.next + 1 := by omega
            simp -implicitDefEqProofs [vV, g5, h51, q3]
            refine call_of (Cmp_ok c hA fun H3 h3 => ?_)
            have n3 := h3.next
            simp only [YX, YY] at n3
            have le3 : H.le H3 := ((((hH1.alloc _).set (by omega) _).alloc _).set (by omega) _).trans h3
            by_cases hcm : 0 ≤ cmpB was.a was.n v.a v.n
            · have hfr : freshB l fr v = false := by
                have : ¬ cmpB was.a was.n v.a v.n < 0 := by omega
                simp [freshB, hx, this]
              simp -implicitDefEqProofs [hcm]
              rw [bad hfr] at hK
              exact hK _ (hu0 _ le3) (h.le le3)
            · have hfr : freshB l fr v = true := by
                have q1 : 0 ≤ fr := by omega
                have q2 : fr < l.n := by omega
                have q4 : cmpB was.a was.n v.a v.n < 0 := by omega
                simp [freshB, hm, hv, hx, q1, q2, q4]
              simp -implicitDefEqProofs [hcm]
              have k5' : H3.get H.next = some (.cells [.int .i64 v.slot, .int .i64 v.a, .int .i64 v.n, .string v.val] false) := by
                rw [h3.get _ (by simp only [YX, YY]; omega)]; simp -implicitDefEqProofs [g5, h51, q3]
              have k7' : H3.get H1.next = some (.cells [.int .i64 v.slot, .int .i64 fr] false) := by
                rw [h3.get _ (by simp only [YX, YY]; omega)]; simp -implicitDefEqProofs []
              exact main _ _ le3 hfr (by simp -implicitDefEqProofs []) (by simp -implicitDefEqProofs []) (by simp -implicitDefEqProofs []) (by simp -implicitDefEqProofs []) (by omega) k5' k7'
        · have hvf : validB v.a v.n = false := by simpa using hv
          have e := bad (by unfold freshB; simp [hvf])
          simp -implicitDefEqProofs [hvf]
          rw [e] at hK
          exact hK _ (hu0 _ hH1) hL1
  · have hmf : mayB l v.slot v.val = false := by simpa using hm
    have e := bad (by unfold freshB; simp [hmf])
    simp -implicitDefEqProofs [hmf]
    rw [e] at hK
    exact hK _ (hu0 _ (H.le_alloc _)) hA1

include hc in
theorem LNew_ok (hB : HasBalB c) {n : Int} (h0 : quorumI n = 0 → K (.pointer none) H) (h1 : quorumI n ≠ 0 → ∀ p r1 r2 H', H.next ≤ p → H.next ≤ r1 → H.next ≤ r2 → H.le H' → IsL H' p r1 r2 ⟨n, 0, fun _ => none, fun _ => none⟩ → K (.pointer (some ⟨p, 0, none⟩)) H') :
    c.C (c.F n_learner_New) [.int .i64 n] H K := by
  refine c.enter hc.learner_New rfl ?_
  simp -implicitDefEqProofs [c_learner_New]
  refine call_of (Quorum_ok c hB ?_)
  by_cases hq : quorumI n = 0
  · simp -implicitDefEqProofs [hq]
    exact h0 hq
  · have hn : 1 ≤ n ∧ n ≤ 7 := by
      unfold quorumI at hq
      split at hq
      · simp at hq
      · omega
    simp -implicitDefEqProofs [hq, fillL, putAt]
    refine h1 hq _ H.next (H.next + 1) _ (by omega) (Nat.le_refl _) (by omega) (((H.le_alloc _).alloc _).alloc _) ⟨by simp only [YX]; omega, ⟨hn.1, hn.2, by simp, by simp, by simp⟩, by simp -implicitDefEqProofs [], ?_, ?_, by omega⟩
    · exact (IsMap.new H kI gS).le (((IHeap.le_alloc _ _)).alloc _)
    · exact (IsMap.new (H.alloc (.map [] 0)) kP vV).le (IHeap.le_alloc _ _)

end
end Go.Proofs.YtpbbjfighohokaaI
