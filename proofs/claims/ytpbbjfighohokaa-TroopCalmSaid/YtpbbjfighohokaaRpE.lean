/- PRINTED by gen.py (this session's own): the intermediate form of some functions, and a context's having them. / A node: notes; who accepts and who learns, with their blocks. / A node: who accepts and who learns, each call with its blocks. / A node: how it stands; a note to all. / A node: what it begins itself. / A node: asking all; a new one. -/
import Derived.Test.YtpbbjfighohokaaProC
import Derived.Test.YtpbbjfighohokaaProG
import Derived.Test.YtpbbjfighohokaaAccC
import Derived.Test.YtpbbjfighohokaaLearner
namespace Go.Proofs.YtpbbjfighohokaaI
set_option linter.unusedSimpArgs false
set_option linter.unusedVariables false
open Go

/-- hurdle/replica.New -/
abbrev n_replica_New : Nat := 288
/-- (*hurdle/replica.Replica).Take -/
abbrev n_replica_Replica_Take : Nat := 289
/-- (*hurdle/replica.Replica).Crash -/
abbrev n_replica_Replica_Crash : Nat := 290
/-- (*hurdle/replica.Replica).Lead -/
abbrev n_replica_Replica_Lead : Nat := 291
/-- (*hurdle/replica.Replica).Propose -/
abbrev n_replica_Replica_Propose : Nat := 292
/-- (*hurdle/replica.Replica).Ask -/
abbrev n_replica_Replica_Ask : Nat := 293
/-- (*hurdle/replica.Replica).Log -/
abbrev n_replica_Replica_Log : Nat := 295
/-- (*hurdle/replica.Replica).Leads -/
abbrev n_replica_Replica_Leads : Nat := 297
/-- (*hurdle/replica.Replica).node -/
abbrev n_replica_Replica_node : Nat := 298
/-- (*hurdle/replica.Replica).prepare -/
abbrev n_replica_Replica_prepare : Nat := 299
/-- (*hurdle/replica.Replica).promise -/
abbrev n_replica_Replica_promise : Nat := 300
/-- (*hurdle/replica.Replica).vote -/
abbrev n_replica_Replica_vote : Nat := 301
/-- (*hurdle/replica.Replica).tell -/
abbrev n_replica_Replica_tell : Nat := 302
/-- (*hurdle/replica.Replica).all -/
abbrev n_replica_Replica_all : Nat := 303
/-- hurdle/replica.read -/
abbrev n_replica_read : Nat := 304
/-- hurdle/replica.New -/
def c_replica_New (F : Nat → FuncId) (Ty : Nat → TypeId) : IFunc := ⟨29, [.tmp 4],
 .seq (.ops [⟨some 4, .move (.const (.pointer none)), none⟩])
 (.seq (.ops [⟨some 6, .move (.tmp 0), none⟩,
 ⟨some 7, .move (.tmp 1), none⟩,
 ⟨some 8, .call (F 177) [], none⟩,
 ⟨some 9, .move (.tmp 0), none⟩,
 ⟨some 10, .move (.tmp 1), none⟩,
 ⟨some 11, .call (F 275) [.tmp 9, .tmp 10], none⟩,
 ⟨some 12, .move (.tmp 0), none⟩,
 ⟨some 13, .call (F 81) [.tmp 12], none⟩,
 ⟨some 14, .build [.int .i64 0, .int .i64 0, .pointer none, .pointer none, .pointer none] [((0, 1), .tmp 6), ((1, 1), .tmp 7), ((2, 1), .tmp 8), ((3, 1), .tmp 11), ((4, 1), .tmp 13)], none⟩,
 ⟨some 15, .box (.tmp 14), none⟩,
 ⟨some 5, .move (.tmp 15), none⟩])
 (.seq (.seq (.ops [⟨some 16, .move (.tmp 5), none⟩,
 ⟨some 17, .nilCheck (.tmp 16), none⟩,
 ⟨some 18, .fieldAddr 3 (.tmp 17), none⟩,
 ⟨some 19, .load1 (.tmp 18), none⟩,
 ⟨some 20, .eqNil 0 false (.tmp 19), none⟩,
 ⟨some 21, .move (.tmp 20), none⟩,
 ⟨some 22, .move (.tmp 5), some (21, false)⟩,
 ⟨some 23, .nilCheck (.tmp 22), some (21, false)⟩,
 ⟨some 24, .fieldAddr 4 (.tmp 23), some (21, false)⟩,
 ⟨some 25, .load1 (.tmp 24), some (21, false)⟩,
 ⟨some 26, .eqNil 0 false (.tmp 25), some (21, false)⟩,
 ⟨some 27, .pick (.tmp 21) (.const (.bool true)) (.tmp 26), none⟩])
 (.cond (.tmp 27)
 (.seq (.ops [⟨some 4, .move (.const (.pointer none)), none⟩])
 (.ret))
 (.skip)))
 (.seq (.ops [⟨some 28, .move (.tmp 5), none⟩,
 ⟨some 4, .move (.tmp 28), none⟩])
 (.ret))))⟩
/-- (*hurdle/replica.Replica).Take -/
def c_replica_Replica_Take (F : Nat → FuncId) (Ty : Nat → TypeId) : IFunc := ⟨104, [.tmp 4],
 .seq (.ops [⟨some 3, .box (.tmp 1), none⟩,
 ⟨some 4, .move (.const (.slice none 0 0)), none⟩])
 (.seq (.seq (.draw [(⟨some 13, .move (.tmp 0), none⟩, []),
 (⟨some 14, .fieldAddr 1 (.tmp 3), none⟩, []),
 (⟨some 15, .load1 (.tmp 14), none⟩, []),
 (⟨some 16, .call (F 298) [.tmp 13, .tmp 15], none⟩, []),
 (⟨some 17, .un .not (.tmp 16), none⟩, []),
 (⟨some 18, .move (.tmp 17), none⟩, []),
 (⟨some 19, .fieldAddr 2 (.tmp 3), some (18, false)⟩, []),
 (⟨some 20, .load1 (.tmp 19), some (18, false)⟩, []),
 (⟨some 21, .move (.tmp 0), some (18, false)⟩, []),
 (⟨some 22, .nilCheck (.tmp 21), some (18, false)⟩, []),
 (⟨some 23, .fieldAddr 1 (.tmp 22), some (18, false)⟩, []),
 (⟨some 24, .load1 (.tmp 23), some (18, false)⟩, []),
 (⟨some 25, .bin .neq (.tmp 20) (.tmp 24), some (18, false)⟩, []),
 (⟨some 26, .pick (.tmp 18) (.const (.bool true)) (.tmp 25), none⟩, [])])
 (.cond (.tmp 26)
 (.seq (.ops [⟨some 4, .move (.const (.slice none 0 0)), none⟩])
 (.ret))
 (.skip)))
 (.seq (.seq (.ops [⟨some 27, .loadN 7 (.tmp 3), none⟩,
 ⟨some 28, .call (F 304) [.tmp 27], none⟩])
 (.block 0 (.seq (.ops [⟨some 29, .assertT (Ty 7) (.agg #[.int .i64 0, .int .i64 0, .int .i64 0, .int .i64 0, .int .i64 0, .int .i64 0, .slice none 0 0]) true (.tmp 28), none⟩,
 ⟨some 30, .extract (.tmp 29) 1, none⟩,
 ⟨some 31, .extract (.tmp 29) 0, none⟩])
 (.cond (.tmp 30)
 (.seq (.ops [⟨some 5, .alloc [.int .i64 0, .int .i64 0, .int .i64 0, .int .i64 0, .int .i64 0, .int .i64 0, .slice none 0 0], none⟩,
 ⟨none, .store 7 (.tmp 5) (.tmp 31), none⟩])
 (.seq (.ops [⟨some 32, .move (.tmp 0), none⟩,
 ⟨some 33, .fieldAddr 0 (.tmp 5), none⟩,
 ⟨some 34, .loadN 7 (.tmp 33), none⟩,
 ⟨some 35, .call (F 299) [.tmp 32, .tmp 34], none⟩,
 ⟨some 4, .move (.tmp 35), none⟩])
 (.ret)))
 (.seq (.ops [⟨some 36, .assertT (Ty 8) (.agg #[.int .i64 0, .int .i64 0, .int .i64 0, .int .i64 0, .int .i64 0, .int .i64 0, .slice none 0 0]) true (.tmp 28), none⟩,
 ⟨some 37, .extract (.tmp 36) 1, none⟩,
 ⟨some 38, .extract (.tmp 36) 0, none⟩])
 (.cond (.tmp 37)
 (.seq (.ops [⟨some 6, .alloc [.int .i64 0, .int .i64 0, .int .i64 0, .int .i64 0, .int .i64 0, .int .i64 0, .slice none 0 0], none⟩,
 ⟨none, .store 7 (.tmp 6) (.tmp 38), none⟩])
 (.seq (.ops [⟨some 39, .move (.tmp 0), none⟩,
 ⟨some 40, .fieldAddr 0 (.tmp 6), none⟩,
 ⟨some 41, .loadN 7 (.tmp 40), none⟩,
 ⟨some 42, .call (F 300) [.tmp 39, .tmp 41], none⟩,
 ⟨some 4, .move (.tmp 42), none⟩])
 (.ret)))
 (.seq (.ops [⟨some 43, .assertT (Ty 9) (.agg #[.int .i64 0, .int .i64 0, .int .i64 0, .string ⟨#[]⟩]) true (.tmp 28), none⟩,
 ⟨some 44, .extract (.tmp 43) 1, none⟩,
 ⟨some 45, .extract (.tmp 43) 0, none⟩])
 (.cond (.tmp 44)
 (.seq (.ops [⟨some 7, .alloc [.int .i64 0, .int .i64 0, .int .i64 0, .string ⟨#[]⟩], none⟩,
 ⟨none, .store 4 (.tmp 7) (.tmp 45), none⟩])
 (.seq (.draw [(⟨some 46, .move (.tmp 0), none⟩, []),
 (⟨some 47, .nilCheck (.tmp 46), none⟩, []),
 (⟨some 48, .fieldAddr 3 (.tmp 47), none⟩, []),
 (⟨some 49, .load1 (.tmp 48), none⟩, []),
 (⟨some 50, .fieldAddr 0 (.tmp 7), none⟩, []),
 (⟨some 51, .fieldAddr 1 (.tmp 50), none⟩, []),
 (⟨some 52, .loadN 2 (.tmp 51), none⟩, []),
 (⟨some 53, .call (F 283) [.tmp 49, .tmp 52], none⟩, [])])
 (.seq (.draw [(⟨some 54, .move (.tmp 0), none⟩, []),
 (⟨some 55, .nilCheck (.tmp 54), none⟩, []),
 (⟨some 56, .fieldAddr 2 (.tmp 55), none⟩, []),
 (⟨some 57, .load1 (.tmp 56), none⟩, []),
 (⟨some 58, .fieldAddr 0 (.tmp 7), none⟩, []),
 (⟨some 59, .loadN 4 (.tmp 58), none⟩, []),
 (⟨some 60, .call (F 182) [.tmp 57, .tmp 59], none⟩, [])])
 (.cond (.tmp 60)
 (.seq (.ops [⟨some 61, .move (.tmp 0), none⟩,
 ⟨some 62, .fieldAddr 0 (.tmp 7), none⟩,
 ⟨some 63, .loadN 4 (.tmp 62), none⟩,
 ⟨some 64, .call (F 301) [.tmp 61, .const (.int .i64 4), .tmp 63], none⟩,
 ⟨some 4, .move (.tmp 64), none⟩])
 (.ret))
 (.skip)))))
 (.seq (.ops [⟨some 65, .assertT (Ty 10) (.agg #[.int .i64 0, .int .i64 0, .int .i64 0, .int .i64 0, .string ⟨#[]⟩]) true (.tmp 28), none⟩,
 ⟨some 66, .extract (.tmp 65) 1, none⟩,
 ⟨some 67, .extract (.tmp 65) 0, none⟩])
 (.cond (.tmp 66)
 (.seq (.ops [⟨some 8, .alloc [.int .i64 0, .int .i64 0, .int .i64 0, .int .i64 0, .string ⟨#[]⟩], none⟩,
 ⟨none, .store 5 (.tmp 8) (.tmp 67), none⟩])
 (.draw [(⟨some 68, .move (.tmp 0), none⟩, []),
 (⟨some 69, .nilCheck (.tmp 68), none⟩, []),
 (⟨some 70, .fieldAddr 4 (.tmp 69), none⟩, []),
 (⟨some 71, .load1 (.tmp 70), none⟩, []),
 (⟨some 72, .fieldAddr 0 (.tmp 8), none⟩, []),
 (⟨some 73, .load1 (.tmp 72), none⟩, []),
 (⟨some 74, .fieldAddr 1 (.tmp 8), none⟩, []),
 (⟨some 75, .loadN 4 (.tmp 74), none⟩, []),
 (⟨some 76, .call (F 83) [.tmp 71, .tmp 73, .tmp 75], none⟩, [])]))
 (.seq (.ops [⟨some 77, .assertT (Ty 11) (.agg #[.int .i64 0, .int .i64 0, .int .i64 0, .int .i64 0, .int .i64 0, .int .i64 0, .slice none 0 0]) true (.tmp 28), none⟩,
 ⟨some 78, .extract (.tmp 77) 1, none⟩,
 ⟨some 79, .extract (.tmp 77) 0, none⟩])
 (.cond (.tmp 78)
 (.seq (.ops [⟨some 9, .alloc [.int .i64 0, .int .i64 0, .int .i64 0, .int .i64 0, .int .i64 0, .int .i64 0, .slice none 0 0], none⟩,
 ⟨none, .store 7 (.tmp 9) (.tmp 79), none⟩])
 (.seq (.ops [⟨some 80, .move (.tmp 0), none⟩,
 ⟨some 81, .fieldAddr 0 (.tmp 9), none⟩,
 ⟨some 82, .loadN 7 (.tmp 81), none⟩,
 ⟨some 83, .call (F 302) [.tmp 80, .tmp 82], none⟩,
 ⟨some 4, .move (.tmp 83), none⟩])
 (.ret)))
 (.seq (.ops [⟨some 84, .assertT (Ty 12) (.agg #[.slice none 0 0]) true (.tmp 28), none⟩,
 ⟨some 85, .extract (.tmp 84) 1, none⟩,
 ⟨some 86, .extract (.tmp 84) 0, none⟩])
 (.cond (.tmp 85)
 (.seq (.ops [⟨some 10, .alloc [.slice none 0 0], none⟩,
 ⟨none, .store 1 (.tmp 10) (.tmp 86), none⟩])
 (.seq (.ops [⟨some 87, .fieldAddr 0 (.tmp 10), none⟩,
 ⟨some 88, .load1 (.tmp 87), none⟩,
 ⟨some 89, .lenSl (.tmp 88), none⟩,
 ⟨some 90, .move (.const (.int .i64 0)), none⟩])
 (.block 1 (.loop (.seq (.ops [⟨some 91, .bin .lss (.tmp 90) (.tmp 89), none⟩])
 (.seq (.cond (.tmp 91)
 (.skip)
 (.exit 1))
 (.seq (.block 2 (.seq (.ops [⟨some 92, .idxSl 4 (.tmp 88) (.tmp 90), none⟩,
 ⟨some 93, .loadN 4 (.tmp 92), none⟩,
 ⟨some 12, .alloc [.int .i64 0, .int .i64 0, .int .i64 0, .string ⟨#[]⟩], none⟩,
 ⟨none, .store 4 (.tmp 12) (.tmp 93), none⟩])
 (.draw [(⟨some 94, .move (.tmp 0), none⟩, []),
 (⟨some 95, .nilCheck (.tmp 94), none⟩, []),
 (⟨some 96, .fieldAddr 4 (.tmp 95), none⟩, []),
 (⟨some 97, .load1 (.tmp 96), none⟩, []),
 (⟨some 98, .fieldAddr 0 (.tmp 12), none⟩, []),
 (⟨some 99, .load1 (.tmp 98), none⟩, []),
 (⟨some 100, .fieldAddr 3 (.tmp 12), none⟩, []),
 (⟨some 101, .load1 (.tmp 100), none⟩, []),
 (⟨some 102, .call (F 84) [.tmp 97, .tmp 99, .tmp 101], none⟩, [])])))
 (.ops [⟨some 103, .bin .add (.tmp 90) (.const (.int .i64 1)), none⟩,
 ⟨some 90, .move (.tmp 103), none⟩]))))))))
 (.skip)))))))))))))))
 (.seq (.ops [⟨some 4, .move (.const (.slice none 0 0)), none⟩])
 (.ret))))⟩
/-- (*hurdle/replica.Replica).Crash -/
def c_replica_Replica_Crash (F : Nat → FuncId) (Ty : Nat → TypeId) : IFunc := ⟨50, [],
 .seq (.seq (.ops [⟨some 3, .move (.tmp 0), none⟩,
 ⟨some 4, .eqNil 0 false (.tmp 3), none⟩])
 (.cond (.tmp 4)
 (.ret)
 (.skip)))
 (.seq (.draw [(⟨some 5, .move (.tmp 0), none⟩, []),
 (⟨some 6, .move (.tmp 0), none⟩, []),
 (⟨some 7, .move (.tmp 0), none⟩, []),
 (⟨some 8, .nilCheck (.tmp 7), none⟩, []),
 (⟨some 9, .fieldAddr 0 (.tmp 8), none⟩, []),
 (⟨some 10, .load1 (.tmp 9), none⟩, []),
 (⟨some 11, .move (.tmp 0), none⟩, []),
 (⟨some 12, .nilCheck (.tmp 11), none⟩, []),
 (⟨some 13, .fieldAddr 1 (.tmp 12), none⟩, []),
 (⟨some 14, .load1 (.tmp 13), none⟩, []),
 (⟨some 16, .move (.tmp 0), none⟩, []),
 (⟨some 17, .nilCheck (.tmp 16), none⟩, []),
 (⟨some 18, .fieldAddr 0 (.tmp 17), none⟩, []),
 (⟨some 19, .load1 (.tmp 18), none⟩, []),
 (⟨some 15, .call (F 275) [.tmp 10, .tmp 14], none⟩, [⟨some 19, .load1 (.tmp 18), none⟩]),
 (⟨some 20, .call (F 81) [.tmp 19], none⟩, []),
 (⟨some 21, .nilCheck (.tmp 5), none⟩, []),
 (⟨some 22, .fieldAddr 3 (.tmp 21), none⟩, []),
 (⟨none, .store 1 (.tmp 22) (.tmp 15), none⟩, []),
 (⟨some 23, .nilCheck (.tmp 6), none⟩, []),
 (⟨some 24, .fieldAddr 4 (.tmp 23), none⟩, []),
 (⟨none, .store 1 (.tmp 24) (.tmp 20), none⟩, [])])
 (.seq (.seq (.ops [⟨some 25, .move (.tmp 0), none⟩,
 ⟨some 26, .nilCheck (.tmp 25), none⟩,
 ⟨some 27, .fieldAddr 2 (.tmp 26), none⟩,
 ⟨some 28, .load1 (.tmp 27), none⟩,
 ⟨some 29, .call (F 186) [.tmp 28], none⟩,
 ⟨some 30, .move (.const (.int .i64 0)), none⟩])
 (.block 0 (.loop (.seq (.ops [⟨some 31, .bin .lss (.tmp 30) (.tmp 29), none⟩])
 (.seq (.cond (.tmp 31)
 (.skip)
 (.exit 0))
 (.seq (.block 1 (.seq (.ops [⟨some 32, .move (.tmp 30), none⟩,
 ⟨some 2, .move (.tmp 32), none⟩])
 (.ops [⟨some 33, .move (.tmp 0), none⟩,
 ⟨some 34, .nilCheck (.tmp 33), none⟩,
 ⟨some 35, .fieldAddr 4 (.tmp 34), none⟩,
 ⟨some 36, .load1 (.tmp 35), none⟩,
 ⟨some 37, .move (.tmp 2), none⟩,
 ⟨some 38, .call (F 84) [.tmp 36, .tmp 37, .const (.string ⟨#[]⟩)], none⟩])))
 (.ops [⟨some 39, .bin .add (.tmp 30) (.const (.int .i64 1)), none⟩,
 ⟨some 30, .move (.tmp 39), none⟩])))))))
 (.draw [(⟨some 40, .move (.tmp 0), none⟩, []),
 (⟨some 41, .nilCheck (.tmp 40), none⟩, []),
 (⟨some 42, .fieldAddr 4 (.tmp 41), none⟩, []),
 (⟨some 43, .load1 (.tmp 42), none⟩, []),
 (⟨some 44, .move (.tmp 0), none⟩, []),
 (⟨some 45, .nilCheck (.tmp 44), none⟩, []),
 (⟨some 46, .fieldAddr 2 (.tmp 45), none⟩, []),
 (⟨some 47, .load1 (.tmp 46), none⟩, []),
 (⟨some 48, .call (F 186) [.tmp 47], none⟩, [⟨some 43, .load1 (.tmp 42), none⟩]),
 (⟨some 49, .call (F 85) [.tmp 43, .tmp 48], none⟩, [])])))⟩
/-- (*hurdle/replica.Replica).Lead -/
def c_replica_Replica_Lead (F : Nat → FuncId) (Ty : Nat → TypeId) : IFunc := ⟨41, [.tmp 2],
 .seq (.ops [⟨some 2, .move (.const (.slice none 0 0)), none⟩])
 (.seq (.seq (.ops [⟨some 6, .move (.tmp 0), none⟩,
 ⟨some 7, .eqNil 0 false (.tmp 6), none⟩])
 (.cond (.tmp 7)
 (.seq (.ops [⟨some 2, .move (.const (.slice none 0 0)), none⟩])
 (.ret))
 (.skip)))
 (.seq (.ops [⟨some 8, .move (.tmp 0), none⟩,
 ⟨some 9, .nilCheck (.tmp 8), none⟩,
 ⟨some 10, .fieldAddr 4 (.tmp 9), none⟩,
 ⟨some 11, .load1 (.tmp 10), none⟩,
 ⟨some 12, .call (F 88) [.tmp 11], none⟩,
 ⟨some 3, .move (.tmp 12), none⟩])
 (.seq (.draw [(⟨some 14, .move (.tmp 0), none⟩, []),
 (⟨some 15, .nilCheck (.tmp 14), none⟩, []),
 (⟨some 16, .fieldAddr 3 (.tmp 15), none⟩, []),
 (⟨some 17, .load1 (.tmp 16), none⟩, []),
 (⟨some 18, .move (.tmp 0), none⟩, []),
 (⟨some 19, .nilCheck (.tmp 18), none⟩, []),
 (⟨some 20, .fieldAddr 2 (.tmp 19), none⟩, []),
 (⟨some 21, .load1 (.tmp 20), none⟩, []),
 (⟨some 23, .move (.tmp 3), none⟩, []),
 (⟨some 4, .alloc [.int .i64 0, .int .i64 0], none⟩, []),
 (⟨some 22, .call (F 184) [.tmp 21], none⟩, [⟨some 17, .load1 (.tmp 16), none⟩]),
 (⟨some 24, .call (F 276) [.tmp 17, .tmp 22, .tmp 23], none⟩, []),
 (⟨some 13, .move (.tmp 24), none⟩, []),
 (⟨some 25, .extract (.tmp 13) 0, none⟩, []),
 (⟨some 26, .extract (.tmp 13) 1, none⟩, []),
 (⟨none, .store 2 (.tmp 4) (.tmp 25), none⟩, []),
 (⟨some 5, .move (.tmp 26), none⟩, [])])
 (.seq (.seq (.ops [⟨some 27, .move (.tmp 5), none⟩,
 ⟨some 28, .bin .neq (.tmp 27) (.const (.int .i64 0)), none⟩])
 (.cond (.tmp 28)
 (.seq (.ops [⟨some 2, .move (.const (.slice none 0 0)), none⟩])
 (.ret))
 (.skip)))
 (.seq (.draw [(⟨some 29, .move (.tmp 0), none⟩, []),
 (⟨some 30, .nilCheck (.tmp 29), none⟩, []),
 (⟨some 31, .fieldAddr 2 (.tmp 30), none⟩, []),
 (⟨some 32, .load1 (.tmp 31), none⟩, []),
 (⟨some 33, .loadN 2 (.tmp 4), none⟩, []),
 (⟨some 34, .move (.tmp 3), none⟩, []),
 (⟨some 35, .call (F 181) [.tmp 32, .tmp 33, .tmp 34], none⟩, [])])
 (.seq (.ops [⟨some 36, .move (.tmp 0), none⟩,
 ⟨some 37, .move (.tmp 3), none⟩,
 ⟨some 38, .loadN 2 (.tmp 4), none⟩,
 ⟨some 39, .build [.int .i64 0, .int .i64 0, .int .i64 0, .int .i64 0, .int .i64 0, .int .i64 0, .slice none 0 0] [((0, 1), .const (.int .i64 1)), ((3, 1), .tmp 37), ((4, 2), .tmp 38)], none⟩,
 ⟨some 40, .call (F 303) [.tmp 36, .tmp 39], none⟩,
 ⟨some 2, .move (.tmp 40), none⟩])
 (.ret)))))))⟩
/-- (*hurdle/replica.Replica).Propose -/
def c_replica_Replica_Propose (F : Nat → FuncId) (Ty : Nat → TypeId) : IFunc := ⟨25, [.tmp 4, .tmp 5],
 .seq (.ops [⟨some 4, .move (.const (.slice none 0 0)), none⟩,
 ⟨some 5, .move (.const (.int .i64 0)), none⟩])
 (.seq (.seq (.ops [⟨some 8, .move (.tmp 0), none⟩,
 ⟨some 9, .eqNil 0 false (.tmp 8), none⟩])
 (.cond (.tmp 9)
 (.seq (.ops [⟨some 4, .move (.const (.slice none 0 0)), none⟩,
 ⟨some 5, .move (.const (.int .i64 1)), none⟩])
 (.ret))
 (.skip)))
 (.seq (.ops [⟨some 11, .move (.tmp 0), none⟩,
 ⟨some 12, .nilCheck (.tmp 11), none⟩,
 ⟨some 13, .fieldAddr 3 (.tmp 12), none⟩,
 ⟨some 14, .load1 (.tmp 13), none⟩,
 ⟨some 15, .move (.tmp 1), none⟩,
 ⟨some 16, .call (F 282) [.tmp 14, .tmp 15], none⟩,
 ⟨some 10, .move (.tmp 16), none⟩,
 ⟨some 17, .extract (.tmp 10) 0, none⟩,
 ⟨some 18, .extract (.tmp 10) 1, none⟩,
 ⟨some 6, .alloc [.int .i64 0, .int .i64 0, .int .i64 0, .string ⟨#[]⟩], none⟩,
 ⟨none, .store 4 (.tmp 6) (.tmp 17), none⟩,
 ⟨some 7, .move (.tmp 18), none⟩])
 (.seq (.seq (.ops [⟨some 19, .move (.tmp 7), none⟩,
 ⟨some 20, .bin .neq (.tmp 19) (.const (.int .i64 0)), none⟩])
 (.cond (.tmp 20)
 (.seq (.ops [⟨some 21, .move (.tmp 7), none⟩,
 ⟨some 4, .move (.const (.slice none 0 0)), none⟩,
 ⟨some 5, .move (.tmp 21), none⟩])
 (.ret))
 (.skip)))
 (.seq (.ops [⟨some 22, .move (.tmp 0), none⟩,
 ⟨some 23, .loadN 4 (.tmp 6), none⟩,
 ⟨some 24, .call (F 301) [.tmp 22, .const (.int .i64 3), .tmp 23], none⟩,
 ⟨some 4, .move (.tmp 24), none⟩,
 ⟨some 5, .move (.const (.int .i64 0)), none⟩])
 (.ret)))))⟩
/-- (*hurdle/replica.Replica).Ask -/
def c_replica_Replica_Ask (F : Nat → FuncId) (Ty : Nat → TypeId) : IFunc := ⟨21, [.tmp 4],
 .seq (.ops [⟨some 4, .move (.const (.slice none 0 0)), none⟩])
 (.seq (.seq (.ops [⟨some 5, .move (.tmp 0), none⟩,
 ⟨some 6, .move (.tmp 1), none⟩,
 ⟨some 7, .call (F 298) [.tmp 5, .tmp 6], none⟩,
 ⟨some 8, .un .not (.tmp 7), none⟩])
 (.cond (.tmp 8)
 (.seq (.ops [⟨some 4, .move (.const (.slice none 0 0)), none⟩])
 (.ret))
 (.skip)))
 (.seq (.draw [(⟨some 9, .move (.tmp 0), none⟩, []),
 (⟨some 10, .nilCheck (.tmp 9), none⟩, []),
 (⟨some 11, .fieldAddr 1 (.tmp 10), none⟩, []),
 (⟨some 12, .load1 (.tmp 11), none⟩, []),
 (⟨some 13, .move (.tmp 1), none⟩, []),
 (⟨some 14, .move (.tmp 0), none⟩, []),
 (⟨some 15, .nilCheck (.tmp 14), none⟩, []),
 (⟨some 16, .fieldAddr 4 (.tmp 15), none⟩, []),
 (⟨some 17, .load1 (.tmp 16), none⟩, []),
 (⟨some 18, .call (F 88) [.tmp 17], none⟩, [⟨some 12, .load1 (.tmp 11), none⟩]),
 (⟨some 19, .build [.int .i64 0, .int .i64 0, .int .i64 0, .int .i64 0, .int .i64 0, .int .i64 0, .slice none 0 0] [((0, 1), .const (.int .i64 5)), ((1, 1), .tmp 12), ((2, 1), .tmp 13), ((3, 1), .tmp 18)], none⟩, []),
 (⟨some 20, .buildSlice 1 [.int .i64 0, .int .i64 0, .int .i64 0, .int .i64 0, .int .i64 0, .int .i64 0, .slice none 0 0] [((0, 7), .tmp 19)], none⟩, []),
 (⟨some 4, .move (.tmp 20), none⟩, [])])
 (.ret)))⟩
/-- (*hurdle/replica.Replica).Log -/
def c_replica_Replica_Log (F : Nat → FuncId) (Ty : Nat → TypeId) : IFunc := ⟨10, [.tmp 2],
 .seq (.ops [⟨some 2, .move (.const (.slice none 0 0)), none⟩])
 (.seq (.seq (.ops [⟨some 3, .move (.tmp 0), none⟩,
 ⟨some 4, .eqNil 0 false (.tmp 3), none⟩])
 (.cond (.tmp 4)
 (.seq (.ops [⟨some 2, .move (.const (.slice none 0 0)), none⟩])
 (.ret))
 (.skip)))
 (.seq (.ops [⟨some 5, .move (.tmp 0), none⟩,
 ⟨some 6, .nilCheck (.tmp 5), none⟩,
 ⟨some 7, .fieldAddr 4 (.tmp 6), none⟩,
 ⟨some 8, .load1 (.tmp 7), none⟩,
 ⟨some 9, .call (F 87) [.tmp 8, .const (.int .i64 0)], none⟩,
 ⟨some 2, .move (.tmp 9), none⟩])
 (.ret)))⟩
/-- (*hurdle/replica.Replica).Leads -/
def c_replica_Replica_Leads (F : Nat → FuncId) (Ty : Nat → TypeId) : IFunc := ⟨12, [.tmp 2],
 .seq (.ops [⟨some 2, .move (.const (.bool false)), none⟩])
 (.seq (.ops [⟨some 3, .move (.tmp 0), none⟩,
 ⟨some 4, .eqNil 0 true (.tmp 3), none⟩,
 ⟨some 5, .move (.tmp 4), none⟩,
 ⟨some 6, .move (.tmp 0), some (5, true)⟩,
 ⟨some 7, .nilCheck (.tmp 6), some (5, true)⟩,
 ⟨some 8, .fieldAddr 3 (.tmp 7), some (5, true)⟩,
 ⟨some 9, .load1 (.tmp 8), some (5, true)⟩,
 ⟨some 10, .call (F 279) [.tmp 9], some (5, true)⟩,
 ⟨some 11, .pick (.tmp 5) (.tmp 10) (.const (.bool false)), none⟩,
 ⟨some 2, .move (.tmp 11), none⟩])
 (.ret))⟩
/-- (*hurdle/replica.Replica).node -/
def c_replica_Replica_node (F : Nat → FuncId) (Ty : Nat → TypeId) : IFunc := ⟨19, [.tmp 4],
 .seq (.ops [⟨some 4, .move (.const (.bool false)), none⟩])
 (.seq (.ops [⟨some 5, .move (.tmp 0), none⟩,
 ⟨some 6, .eqNil 0 true (.tmp 5), none⟩,
 ⟨some 7, .move (.tmp 6), none⟩,
 ⟨some 8, .move (.tmp 1), some (7, true)⟩,
 ⟨some 9, .bin .geq (.tmp 8) (.const (.int .i64 0)), some (7, true)⟩,
 ⟨some 10, .pick (.tmp 7) (.tmp 9) (.const (.bool false)), none⟩,
 ⟨some 11, .move (.tmp 10), none⟩,
 ⟨some 12, .move (.tmp 1), some (11, true)⟩,
 ⟨some 13, .move (.tmp 0), some (11, true)⟩,
 ⟨some 14, .nilCheck (.tmp 13), some (11, true)⟩,
 ⟨some 15, .fieldAddr 0 (.tmp 14), some (11, true)⟩,
 ⟨some 16, .load1 (.tmp 15), some (11, true)⟩,
 ⟨some 17, .bin .lss (.tmp 12) (.tmp 16), some (11, true)⟩,
 ⟨some 18, .pick (.tmp 11) (.tmp 17) (.const (.bool false)), none⟩,
 ⟨some 4, .move (.tmp 18), none⟩])
 (.ret))⟩
/-- (*hurdle/replica.Replica).prepare -/
def c_replica_Replica_prepare (F : Nat → FuncId) (Ty : Nat → TypeId) : IFunc := ⟨47, [.tmp 4],
 .seq (.ops [⟨some 3, .box (.tmp 1), none⟩,
 ⟨some 4, .move (.const (.slice none 0 0)), none⟩])
 (.seq (.draw [(⟨some 7, .move (.tmp 0), none⟩, []),
 (⟨some 8, .nilCheck (.tmp 7), none⟩, []),
 (⟨some 9, .fieldAddr 3 (.tmp 8), none⟩, []),
 (⟨some 10, .load1 (.tmp 9), none⟩, []),
 (⟨some 11, .fieldAddr 4 (.tmp 3), none⟩, []),
 (⟨some 12, .loadN 2 (.tmp 11), none⟩, []),
 (⟨some 13, .call (F 283) [.tmp 10, .tmp 12], none⟩, [])])
 (.seq (.seq (.ops [⟨some 14, .fieldAddr 3 (.tmp 3), none⟩,
 ⟨some 15, .load1 (.tmp 14), none⟩,
 ⟨some 16, .bin .lss (.tmp 15) (.const (.int .i64 0)), none⟩,
 ⟨some 17, .move (.tmp 16), none⟩,
 ⟨some 18, .fieldAddr 3 (.tmp 3), some (17, false)⟩,
 ⟨some 19, .load1 (.tmp 18), some (17, false)⟩,
 ⟨some 20, .bin .geq (.tmp 19) (.const (.int .i64 1024)), some (17, false)⟩,
 ⟨some 21, .pick (.tmp 17) (.const (.bool true)) (.tmp 20), none⟩])
 (.cond (.tmp 21)
 (.seq (.ops [⟨some 4, .move (.const (.slice none 0 0)), none⟩])
 (.ret))
 (.skip)))
 (.seq (.draw [(⟨some 23, .move (.tmp 0), none⟩, []),
 (⟨some 24, .nilCheck (.tmp 23), none⟩, []),
 (⟨some 25, .fieldAddr 2 (.tmp 24), none⟩, []),
 (⟨some 26, .load1 (.tmp 25), none⟩, []),
 (⟨some 27, .fieldAddr 4 (.tmp 3), none⟩, []),
 (⟨some 28, .loadN 2 (.tmp 27), none⟩, []),
 (⟨some 29, .fieldAddr 3 (.tmp 3), none⟩, []),
 (⟨some 30, .load1 (.tmp 29), none⟩, []),
 (⟨some 31, .call (F 181) [.tmp 26, .tmp 28, .tmp 30], none⟩, []),
 (⟨some 22, .move (.tmp 31), none⟩, []),
 (⟨some 32, .extract (.tmp 22) 0, none⟩, []),
 (⟨some 33, .extract (.tmp 22) 1, none⟩, []),
 (⟨some 5, .move (.tmp 32), none⟩, []),
 (⟨some 6, .move (.tmp 33), none⟩, [])])
 (.seq (.seq (.ops [⟨some 34, .move (.tmp 6), none⟩,
 ⟨some 35, .un .not (.tmp 34), none⟩])
 (.cond (.tmp 35)
 (.seq (.ops [⟨some 4, .move (.const (.slice none 0 0)), none⟩])
 (.ret))
 (.skip)))
 (.seq (.draw [(⟨some 36, .move (.tmp 0), none⟩, []),
 (⟨some 37, .nilCheck (.tmp 36), none⟩, []),
 (⟨some 38, .fieldAddr 1 (.tmp 37), none⟩, []),
 (⟨some 39, .load1 (.tmp 38), none⟩, []),
 (⟨some 40, .fieldAddr 1 (.tmp 3), none⟩, []),
 (⟨some 41, .load1 (.tmp 40), none⟩, []),
 (⟨some 42, .fieldAddr 4 (.tmp 3), none⟩, []),
 (⟨some 43, .loadN 2 (.tmp 42), none⟩, []),
 (⟨some 44, .move (.tmp 5), none⟩, []),
 (⟨some 45, .build [.int .i64 0, .int .i64 0, .int .i64 0, .int .i64 0, .int .i64 0, .int .i64 0, .slice none 0 0] [((0, 1), .const (.int .i64 2)), ((1, 1), .tmp 39), ((2, 1), .tmp 41), ((4, 2), .tmp 43), ((6, 1), .tmp 44)], none⟩, []),
 (⟨some 46, .buildSlice 1 [.int .i64 0, .int .i64 0, .int .i64 0, .int .i64 0, .int .i64 0, .int .i64 0, .slice none 0 0] [((0, 7), .tmp 45)], none⟩, []),
 (⟨some 4, .move (.tmp 46), none⟩, [])])
 (.ret))))))⟩
/-- (*hurdle/replica.Replica).promise -/
def c_replica_Replica_promise (F : Nat → FuncId) (Ty : Nat → TypeId) : IFunc := ⟨37, [.tmp 4],
 .seq (.ops [⟨some 3, .box (.tmp 1), none⟩,
 ⟨some 4, .move (.const (.slice none 0 0)), none⟩])
 (.seq (.seq (.draw [(⟨some 8, .move (.tmp 0), none⟩, []),
 (⟨some 9, .nilCheck (.tmp 8), none⟩, []),
 (⟨some 10, .fieldAddr 3 (.tmp 9), none⟩, []),
 (⟨some 11, .load1 (.tmp 10), none⟩, []),
 (⟨some 12, .fieldAddr 1 (.tmp 3), none⟩, []),
 (⟨some 13, .load1 (.tmp 12), none⟩, []),
 (⟨some 14, .fieldAddr 4 (.tmp 3), none⟩, []),
 (⟨some 15, .loadN 2 (.tmp 14), none⟩, []),
 (⟨some 16, .fieldAddr 6 (.tmp 3), none⟩, []),
 (⟨some 17, .load1 (.tmp 16), none⟩, []),
 (⟨some 18, .call (F 278) [.tmp 11, .tmp 13, .tmp 15, .tmp 17], none⟩, []),
 (⟨some 19, .un .not (.tmp 18), none⟩, [])])
 (.cond (.tmp 19)
 (.seq (.ops [⟨some 4, .move (.const (.slice none 0 0)), none⟩])
 (.ret))
 (.skip)))
 (.seq (.ops [⟨some 5, .move (.const (.slice none 0 0)), none⟩])
 (.seq (.seq (.ops [⟨some 20, .move (.tmp 0), none⟩,
 ⟨some 21, .nilCheck (.tmp 20), none⟩,
 ⟨some 22, .fieldAddr 3 (.tmp 21), none⟩,
 ⟨some 23, .load1 (.tmp 22), none⟩,
 ⟨some 24, .call (F 281) [.tmp 23], none⟩,
 ⟨some 25, .lenSl (.tmp 24), none⟩,
 ⟨some 26, .move (.const (.int .i64 0)), none⟩])
 (.block 0 (.loop (.seq (.ops [⟨some 27, .bin .lss (.tmp 26) (.tmp 25), none⟩])
 (.seq (.cond (.tmp 27)
 (.skip)
 (.exit 0))
 (.seq (.block 1 (.seq (.ops [⟨some 28, .idxSl 4 (.tmp 24) (.tmp 26), none⟩,
 ⟨some 29, .loadN 4 (.tmp 28), none⟩,
 ⟨some 7, .alloc [.int .i64 0, .int .i64 0, .int .i64 0, .string ⟨#[]⟩], none⟩,
 ⟨none, .store 4 (.tmp 7) (.tmp 29), none⟩])
 (.ops [⟨some 30, .move (.tmp 5), none⟩,
 ⟨some 31, .move (.tmp 0), none⟩,
 ⟨some 32, .loadN 4 (.tmp 7), none⟩,
 ⟨some 33, .call (F 301) [.tmp 31, .const (.int .i64 3), .tmp 32], none⟩,
 ⟨some 34, .append 7 72 (.tmp 30) (.tmp 33), none⟩,
 ⟨some 5, .move (.tmp 34), none⟩])))
 (.ops [⟨some 35, .bin .add (.tmp 26) (.const (.int .i64 1)), none⟩,
 ⟨some 26, .move (.tmp 35), none⟩])))))))
 (.seq (.ops [⟨some 36, .move (.tmp 5), none⟩,
 ⟨some 4, .move (.tmp 36), none⟩])
 (.ret)))))⟩
/-- (*hurdle/replica.Replica).vote -/
def c_replica_Replica_vote (F : Nat → FuncId) (Ty : Nat → TypeId) : IFunc := ⟨13, [.tmp 6],
 .seq (.ops [⟨some 5, .box (.tmp 2), none⟩,
 ⟨some 6, .move (.const (.slice none 0 0)), none⟩])
 (.seq (.ops [⟨some 7, .move (.tmp 0), none⟩,
 ⟨some 8, .move (.tmp 1), none⟩,
 ⟨some 9, .loadN 4 (.tmp 5), none⟩,
 ⟨some 10, .buildSlice 1 [.int .i64 0, .int .i64 0, .int .i64 0, .string ⟨#[]⟩] [((0, 4), .tmp 9)], none⟩,
 ⟨some 11, .build [.int .i64 0, .int .i64 0, .int .i64 0, .int .i64 0, .int .i64 0, .int .i64 0, .slice none 0 0] [((0, 1), .tmp 8), ((6, 1), .tmp 10)], none⟩,
 ⟨some 12, .call (F 303) [.tmp 7, .tmp 11], none⟩,
 ⟨some 6, .move (.tmp 12), none⟩])
 (.ret))⟩
/-- (*hurdle/replica.Replica).tell -/
def c_replica_Replica_tell (F : Nat → FuncId) (Ty : Nat → TypeId) : IFunc := ⟨53, [.tmp 4],
 .seq (.ops [⟨some 3, .box (.tmp 1), none⟩,
 ⟨some 4, .move (.const (.slice none 0 0)), none⟩])
 (.seq (.seq (.draw [(⟨some 8, .fieldAddr 3 (.tmp 3), none⟩, []),
 (⟨some 9, .load1 (.tmp 8), none⟩, []),
 (⟨some 10, .move (.tmp 0), none⟩, []),
 (⟨some 11, .nilCheck (.tmp 10), none⟩, []),
 (⟨some 12, .fieldAddr 4 (.tmp 11), none⟩, []),
 (⟨some 13, .load1 (.tmp 12), none⟩, []),
 (⟨some 14, .call (F 86) [.tmp 13], none⟩, [⟨some 9, .load1 (.tmp 8), none⟩]),
 (⟨some 15, .bin .lss (.tmp 9) (.tmp 14), none⟩, [])])
 (.cond (.tmp 15)
 (.seq (.ops [⟨some 4, .move (.const (.slice none 0 0)), none⟩])
 (.ret))
 (.skip)))
 (.seq (.ops [⟨some 5, .move (.const (.slice none 0 0)), none⟩])
 (.seq (.seq (.draw [(⟨some 16, .move (.tmp 0), none⟩, []),
 (⟨some 17, .nilCheck (.tmp 16), none⟩, []),
 (⟨some 18, .fieldAddr 4 (.tmp 17), none⟩, []),
 (⟨some 19, .load1 (.tmp 18), none⟩, []),
 (⟨some 20, .fieldAddr 3 (.tmp 3), none⟩, []),
 (⟨some 21, .load1 (.tmp 20), none⟩, []),
 (⟨some 24, .move (.const (.int .i64 0)), none⟩, []),
 (⟨some 22, .call (F 87) [.tmp 19, .tmp 21], none⟩, []),
 (⟨some 23, .lenSl (.tmp 22), none⟩, [])])
 (.block 0 (.loop (.seq (.ops [⟨some 25, .bin .lss (.tmp 24) (.tmp 23), none⟩])
 (.seq (.cond (.tmp 25)
 (.skip)
 (.exit 0))
 (.seq (.block 1 (.seq (.ops [⟨some 26, .move (.tmp 24), none⟩,
 ⟨some 27, .idxSl 1 (.tmp 22) (.tmp 24), none⟩,
 ⟨some 28, .load1 (.tmp 27), none⟩,
 ⟨some 6, .move (.tmp 26), none⟩,
 ⟨some 7, .move (.tmp 28), none⟩])
 (.seq (.ops [⟨some 29, .move (.tmp 6), none⟩,
 ⟨some 30, .bin .lss (.tmp 29) (.const (.int .i64 8)), none⟩])
 (.cond (.tmp 30)
 (.ops [⟨some 31, .move (.tmp 5), none⟩,
 ⟨some 32, .fieldAddr 3 (.tmp 3), none⟩,
 ⟨some 33, .load1 (.tmp 32), none⟩,
 ⟨some 34, .move (.tmp 6), none⟩,
 ⟨some 35, .bin .add (.tmp 33) (.tmp 34), none⟩,
 ⟨some 36, .move (.tmp 7), none⟩,
 ⟨some 37, .build [.int .i64 0, .int .i64 0, .int .i64 0, .string ⟨#[]⟩] [((0, 1), .tmp 35), ((3, 1), .tmp 36)], none⟩,
 ⟨some 38, .buildSlice 1 [.int .i64 0, .int .i64 0, .int .i64 0, .string ⟨#[]⟩] [((0, 4), .tmp 37)], none⟩,
 ⟨some 39, .append 4 40 (.tmp 31) (.tmp 38), none⟩,
 ⟨some 5, .move (.tmp 39), none⟩])
 (.skip)))))
 (.ops [⟨some 40, .bin .add (.tmp 24) (.const (.int .i64 1)), none⟩,
 ⟨some 24, .move (.tmp 40), none⟩])))))))
 (.seq (.seq (.ops [⟨some 41, .move (.tmp 5), none⟩,
 ⟨some 42, .lenSl (.tmp 41), none⟩,
 ⟨some 43, .bin .eql (.tmp 42) (.const (.int .i64 0)), none⟩])
 (.cond (.tmp 43)
 (.seq (.ops [⟨some 4, .move (.const (.slice none 0 0)), none⟩])
 (.ret))
 (.skip)))
 (.seq (.draw [(⟨some 44, .move (.tmp 0), none⟩, []),
 (⟨some 45, .nilCheck (.tmp 44), none⟩, []),
 (⟨some 46, .fieldAddr 1 (.tmp 45), none⟩, []),
 (⟨some 47, .load1 (.tmp 46), none⟩, []),
 (⟨some 48, .fieldAddr 1 (.tmp 3), none⟩, []),
 (⟨some 49, .load1 (.tmp 48), none⟩, []),
 (⟨some 50, .move (.tmp 5), none⟩, []),
 (⟨some 51, .build [.int .i64 0, .int .i64 0, .int .i64 0, .int .i64 0, .int .i64 0, .int .i64 0, .slice none 0 0] [((0, 1), .const (.int .i64 6)), ((1, 1), .tmp 47), ((2, 1), .tmp 49), ((6, 1), .tmp 50)], none⟩, []),
 (⟨some 52, .buildSlice 1 [.int .i64 0, .int .i64 0, .int .i64 0, .int .i64 0, .int .i64 0, .int .i64 0, .slice none 0 0] [((0, 7), .tmp 51)], none⟩, []),
 (⟨some 4, .move (.tmp 52), none⟩, [])])
 (.ret))))))⟩
/-- (*hurdle/replica.Replica).all -/
def c_replica_Replica_all (F : Nat → FuncId) (Ty : Nat → TypeId) : IFunc := ⟨43, [.tmp 4],
 .seq (.ops [⟨some 3, .box (.tmp 1), none⟩,
 ⟨some 4, .move (.const (.slice none 0 0)), none⟩])
 (.seq (.ops [⟨some 7, .move (.tmp 0), none⟩,
 ⟨some 8, .nilCheck (.tmp 7), none⟩,
 ⟨some 9, .fieldAddr 0 (.tmp 8), none⟩,
 ⟨some 10, .load1 (.tmp 9), none⟩,
 ⟨some 11, .mkSlice 72 [.int .i64 0, .int .i64 0, .int .i64 0, .int .i64 0, .int .i64 0, .int .i64 0, .slice none 0 0] (.tmp 10) (.tmp 10), none⟩,
 ⟨some 5, .move (.tmp 11), none⟩])
 (.seq (.seq (.ops [⟨some 12, .move (.tmp 5), none⟩,
 ⟨some 13, .lenSl (.tmp 12), none⟩,
 ⟨some 14, .move (.const (.int .i64 0)), none⟩])
 (.block 0 (.loop (.seq (.ops [⟨some 15, .bin .lss (.tmp 14) (.tmp 13), none⟩])
 (.seq (.cond (.tmp 15)
 (.skip)
 (.exit 0))
 (.seq (.block 1 (.seq (.ops [⟨some 16, .move (.tmp 14), none⟩,
 ⟨some 6, .move (.tmp 16), none⟩])
 (.seq (.ops [⟨some 17, .move (.tmp 5), none⟩,
 ⟨some 18, .move (.tmp 6), none⟩,
 ⟨some 19, .loadN 7 (.tmp 3), none⟩,
 ⟨some 20, .idxSl 7 (.tmp 17) (.tmp 18), none⟩,
 ⟨none, .store 7 (.tmp 20) (.tmp 19), none⟩])
 (.seq (.ops [⟨some 21, .move (.tmp 5), none⟩,
 ⟨some 22, .move (.tmp 6), none⟩,
 ⟨some 23, .move (.tmp 5), none⟩,
 ⟨some 24, .move (.tmp 6), none⟩,
 ⟨some 25, .move (.tmp 0), none⟩,
 ⟨some 26, .nilCheck (.tmp 25), none⟩,
 ⟨some 27, .fieldAddr 1 (.tmp 26), none⟩,
 ⟨some 28, .load1 (.tmp 27), none⟩,
 ⟨some 29, .move (.tmp 6), none⟩,
 ⟨some 30, .idxSl 7 (.tmp 21) (.tmp 22), none⟩,
 ⟨some 31, .fieldAddr 1 (.tmp 30), none⟩,
 ⟨none, .store 1 (.tmp 31) (.tmp 28), none⟩,
 ⟨some 32, .idxSl 7 (.tmp 23) (.tmp 24), none⟩,
 ⟨some 33, .fieldAddr 2 (.tmp 32), none⟩,
 ⟨none, .store 1 (.tmp 33) (.tmp 29), none⟩])
 (.ops [⟨some 34, .move (.tmp 5), none⟩,
 ⟨some 35, .move (.tmp 6), none⟩,
 ⟨some 36, .fieldAddr 6 (.tmp 3), none⟩,
 ⟨some 37, .load1 (.tmp 36), none⟩,
 ⟨some 38, .append 4 40 (.const (.slice none 0 0)) (.tmp 37), none⟩,
 ⟨some 39, .idxSl 7 (.tmp 34) (.tmp 35), none⟩,
 ⟨some 40, .fieldAddr 6 (.tmp 39), none⟩,
 ⟨none, .store 1 (.tmp 40) (.tmp 38), none⟩])))))
 (.ops [⟨some 41, .bin .add (.tmp 14) (.const (.int .i64 1)), none⟩,
 ⟨some 14, .move (.tmp 41), none⟩])))))))
 (.seq (.ops [⟨some 42, .move (.tmp 5), none⟩,
 ⟨some 4, .move (.tmp 42), none⟩])
 (.ret))))⟩
/-- hurdle/replica.read -/
def c_replica_read (F : Nat → FuncId) (Ty : Nat → TypeId) : IFunc := ⟨65, [.tmp 2],
 .seq (.ops [⟨some 1, .box (.tmp 0), none⟩,
 ⟨some 2, .move (.const (.nilIface)), none⟩])
 (.seq (.ops [⟨some 4, .fieldAddr 6 (.tmp 1), none⟩,
 ⟨some 5, .load1 (.tmp 4), none⟩,
 ⟨some 6, .lenSl (.tmp 5), none⟩,
 ⟨some 7, .bin .eql (.tmp 6) (.const (.int .i64 1)), none⟩,
 ⟨some 3, .move (.tmp 7), none⟩])
 (.seq (.block 0 (.seq (.ops [⟨some 9, .fieldAddr 0 (.tmp 1), none⟩,
 ⟨some 10, .load1 (.tmp 9), none⟩,
 ⟨some 11, .bin .eql (.tmp 10) (.const (.int .i64 1)), none⟩,
 ⟨some 8, .move (.tmp 11), none⟩])
 (.cond (.tmp 8)
 (.seq (.ops [⟨some 12, .loadN 7 (.tmp 1), none⟩,
 ⟨some 13, .build [.int .i64 0, .int .i64 0, .int .i64 0, .int .i64 0, .int .i64 0, .int .i64 0, .slice none 0 0] [((0, 7), .tmp 12)], none⟩,
 ⟨some 14, .mkIface (Ty 7) (.tmp 13), none⟩,
 ⟨some 2, .move (.tmp 14), none⟩])
 (.ret))
 (.seq (.ops [⟨some 16, .fieldAddr 0 (.tmp 1), none⟩,
 ⟨some 17, .load1 (.tmp 16), none⟩,
 ⟨some 18, .bin .eql (.tmp 17) (.const (.int .i64 2)), none⟩,
 ⟨some 15, .move (.tmp 18), none⟩])
 (.cond (.tmp 15)
 (.seq (.ops [⟨some 19, .loadN 7 (.tmp 1), none⟩,
 ⟨some 20, .build [.int .i64 0, .int .i64 0, .int .i64 0, .int .i64 0, .int .i64 0, .int .i64 0, .slice none 0 0] [((0, 7), .tmp 19)], none⟩,
 ⟨some 21, .mkIface (Ty 8) (.tmp 20), none⟩,
 ⟨some 2, .move (.tmp 21), none⟩])
 (.ret))
 (.seq (.ops [⟨some 23, .fieldAddr 0 (.tmp 1), none⟩,
 ⟨some 24, .load1 (.tmp 23), none⟩,
 ⟨some 25, .bin .eql (.tmp 24) (.const (.int .i64 3)), none⟩,
 ⟨some 26, .move (.tmp 25), none⟩,
 ⟨some 27, .move (.tmp 3), some (26, true)⟩,
 ⟨some 28, .pick (.tmp 26) (.tmp 27) (.const (.bool false)), none⟩,
 ⟨some 22, .move (.tmp 28), none⟩])
 (.cond (.tmp 22)
 (.seq (.ops [⟨some 29, .fieldAddr 6 (.tmp 1), none⟩,
 ⟨some 30, .load1 (.tmp 29), none⟩,
 ⟨some 31, .idxSl 4 (.tmp 30) (.const (.int .i64 0)), none⟩,
 ⟨some 32, .loadN 4 (.tmp 31), none⟩,
 ⟨some 33, .build [.int .i64 0, .int .i64 0, .int .i64 0, .string ⟨#[]⟩] [((0, 4), .tmp 32)], none⟩,
 ⟨some 34, .mkIface (Ty 9) (.tmp 33), none⟩,
 ⟨some 2, .move (.tmp 34), none⟩])
 (.ret))
 (.seq (.ops [⟨some 36, .fieldAddr 0 (.tmp 1), none⟩,
 ⟨some 37, .load1 (.tmp 36), none⟩,
 ⟨some 38, .bin .eql (.tmp 37) (.const (.int .i64 4)), none⟩,
 ⟨some 39, .move (.tmp 38), none⟩,
 ⟨some 40, .move (.tmp 3), some (39, true)⟩,
 ⟨some 41, .pick (.tmp 39) (.tmp 40) (.const (.bool false)), none⟩,
 ⟨some 35, .move (.tmp 41), none⟩])
 (.cond (.tmp 35)
 (.seq (.draw [(⟨some 42, .fieldAddr 1 (.tmp 1), none⟩, []),
 (⟨some 43, .load1 (.tmp 42), none⟩, []),
 (⟨some 44, .fieldAddr 6 (.tmp 1), none⟩, []),
 (⟨some 45, .load1 (.tmp 44), none⟩, []),
 (⟨some 46, .idxSl 4 (.tmp 45) (.const (.int .i64 0)), none⟩, []),
 (⟨some 47, .loadN 4 (.tmp 46), none⟩, []),
 (⟨some 48, .build [.int .i64 0, .int .i64 0, .int .i64 0, .int .i64 0, .string ⟨#[]⟩] [((0, 1), .tmp 43), ((1, 4), .tmp 47)], none⟩, []),
 (⟨some 49, .mkIface (Ty 10) (.tmp 48), none⟩, []),
 (⟨some 2, .move (.tmp 49), none⟩, [])])
 (.ret))
 (.seq (.ops [⟨some 51, .fieldAddr 0 (.tmp 1), none⟩,
 ⟨some 52, .load1 (.tmp 51), none⟩,
 ⟨some 53, .bin .eql (.tmp 52) (.const (.int .i64 5)), none⟩,
 ⟨some 50, .move (.tmp 53), none⟩])
 (.cond (.tmp 50)
 (.seq (.ops [⟨some 54, .loadN 7 (.tmp 1), none⟩,
 ⟨some 55, .build [.int .i64 0, .int .i64 0, .int .i64 0, .int .i64 0, .int .i64 0, .int .i64 0, .slice none 0 0] [((0, 7), .tmp 54)], none⟩,
 ⟨some 56, .mkIface (Ty 11) (.tmp 55), none⟩,
 ⟨some 2, .move (.tmp 56), none⟩])
 (.ret))
 (.seq (.ops [⟨some 58, .fieldAddr 0 (.tmp 1), none⟩,
 ⟨some 59, .load1 (.tmp 58), none⟩,
 ⟨some 60, .bin .eql (.tmp 59) (.const (.int .i64 6)), none⟩,
 ⟨some 57, .move (.tmp 60), none⟩])
 (.cond (.tmp 57)
 (.seq (.ops [⟨some 61, .fieldAddr 6 (.tmp 1), none⟩,
 ⟨some 62, .load1 (.tmp 61), none⟩,
 ⟨some 63, .build [.slice none 0 0] [((0, 1), .tmp 62)], none⟩,
 ⟨some 64, .mkIface (Ty 12) (.tmp 63), none⟩,
 ⟨some 2, .move (.tmp 64), none⟩])
 (.ret))
 (.skip))))))))))))))
 (.seq (.ops [⟨some 2, .move (.const (.nilIface)), none⟩])
 (.ret))))⟩
/-- A context has these functions. -/
structure HasRepl (c : Ctx) : Prop where
 replica_New : c.IP (c.F 288) = some (c_replica_New c.F c.Ty)
 replica_Replica_Take : c.IP (c.F 289) = some (c_replica_Replica_Take c.F c.Ty)
 replica_Replica_Crash : c.IP (c.F 290) = some (c_replica_Replica_Crash c.F c.Ty)
 replica_Replica_Lead : c.IP (c.F 291) = some (c_replica_Replica_Lead c.F c.Ty)
 replica_Replica_Propose : c.IP (c.F 292) = some (c_replica_Replica_Propose c.F c.Ty)
 replica_Replica_Ask : c.IP (c.F 293) = some (c_replica_Replica_Ask c.F c.Ty)
 replica_Replica_Log : c.IP (c.F 295) = some (c_replica_Replica_Log c.F c.Ty)
 replica_Replica_Leads : c.IP (c.F 297) = some (c_replica_Replica_Leads c.F c.Ty)
 replica_Replica_node : c.IP (c.F 298) = some (c_replica_Replica_node c.F c.Ty)
 replica_Replica_prepare : c.IP (c.F 299) = some (c_replica_Replica_prepare c.F c.Ty)
 replica_Replica_promise : c.IP (c.F 300) = some (c_replica_Replica_promise c.F c.Ty)
 replica_Replica_vote : c.IP (c.F 301) = some (c_replica_Replica_vote c.F c.Ty)
 replica_Replica_tell : c.IP (c.F 302) = some (c_replica_Replica_tell c.F c.Ty)
 replica_Replica_all : c.IP (c.F 303) = some (c_replica_Replica_all c.F c.Ty)
 replica_read : c.IP (c.F 304) = some (c_replica_read c.F c.Ty)

end Go.Proofs.YtpbbjfighohokaaI
namespace Go.Proofs.YtpbbjfighohokaaI
set_option linter.unusedSimpArgs false
set_option linter.unusedVariables false
open Go

/-! ### notes -/
structure NoteD where
  kind : Int
  fr : Int
  to : Int
  slot : Int
  ba : Int
  bn : Int
  votes : List VoteD
  deriving DecidableEq
def rowN (x : NoteD) (u : Value) : List Value := [.int .i64 x.kind, .int .i64 x.fr, .int .i64 x.to, .int .i64 x.slot, .int .i64 x.ba, .int .i64 x.bn, u]
/-- A slice that may be cut, in a block of D. -/
def SwD (D : Nat → Prop) (H : IHeap) (size : Nat) (v : Value) (rows : List (List Value)) : Prop := SlD D H size v rows ∧ SlW H size v rows
theorem SwD.le {D : Nat → Prop} {H H' : IHeap} {size : Nat} {v : Value} {rows : List (List Value)} (h : SwD D H size v rows) (k : H.le H') : SwD D H' size v rows := ⟨h.1.le k, h.2.le k⟩
theorem SwD.weak {D D' : Nat → Prop} {H : IHeap} {size : Nat} {v : Value} {rows : List (List Value)} (h : SwD D H size v rows) (hd : ∀ b, D b → D' b) : SwD D' H size v rows := ⟨h.1.weak hd, h.2⟩
theorem SwD.fr {B D : Nat → Prop} {H H' : IHeap} {size : Nat} {v : Value} {rows : List (List Value)} (h : SwD D H size v rows) (k : Fr B H H') (hd : ∀ b, D b → ¬ B b) : SwD D H' size v rows :=
  ⟨h.1.fr k hd, (h.1.fr k hd).1, h.2.2⟩
theorem SwD.nil (D : Nat → Prop) (H : IHeap) (size : Nat) : SwD D H size (.slice none 0 0) [] := ⟨⟨⟨none, 0, rfl, fun h => absurd rfl h⟩, fun _ _ _ _ _ h => absurd rfl h⟩, SlW.nil H size⟩
theorem Grow.swD {H : IHeap} {B size : Nat} {v : Value} {rows : List (List Value)} (h : Grow H B size v rows) : SwD (fun b => B ≤ b ∧ b < H.next) H size v rows := ⟨h.slD, h.slw⟩

/-- A slice that was nil at first and is only appended to, in the block that is told. -/
def GrowAt (o : Option Nat) (H : IHeap) (size : Nat) (v : Value) (rows : List (List Value)) : Prop := match o with
  | none => rows = [] ∧ v = .slice none 0 0
  | some b => b < H.next ∧ (∀ r ∈ rows, r.length = size) ∧ v = .slice (some ⟨b, 0, none⟩) rows.length (UNK + size) ∧ H.get b = some (.cells rows.flatten false)
theorem GrowAt.fr {o : Option Nat} {B : Nat → Prop} {H H' : IHeap} {size : Nat} {v : Value} {rows : List (List Value)} (h : GrowAt o H size v rows) (k : Fr B H H') (hd : ∀ b, o = some b → ¬ B b) : GrowAt o H' size v rows := by
  cases o with
  | none => exact h
  | some b => exact ⟨Nat.lt_of_lt_of_le h.1 k.next, h.2.1, h.2.2.1, (k.get b h.1 (hd b rfl)).trans h.2.2.2⟩
/-- A slice that may be appended to: nil, or with no room behind it, or one's own. -/
def BufD (H : IHeap) (size : Nat) (v : Value) (rows : List (List Value)) : Prop :=
  (rows = [] ∧ v = .slice none 0 0) ∨ (rows ≠ [] ∧ (Tight H size v rows ∨ ∃ b, GrowAt (some b) H size v rows))
theorem BufD.fr {D B : Nat → Prop} {H H' : IHeap} {size : Nat} {v : Value} {rows : List (List Value)} (h : BufD H size v rows) (hs : SlD D H size v rows) (k : Fr B H H') (hd : ∀ b, D b → ¬ B b) : BufD H' size v rows := by
  rcases h with h | ⟨hne, h | ⟨b, h⟩⟩
  · exact .inl h
  · refine .inr ⟨hne, .inl ?_⟩
    obtain ⟨h0, blk, o, cs, ro, h1, h2, h3, h4, h5, h6⟩ := h
    exact ⟨h0, blk, o, cs, ro, Nat.lt_of_lt_of_le h1 k.next, h2, h3, (k.get blk h1 (hd blk (hs.2 blk o _ _ h3 hne))).trans h4, h5, h6⟩
  · exact .inr ⟨hne, .inr ⟨b, h.fr k fun b' e => by
      injection e with e
      subst e
      exact hd b (hs.2 b 0 _ _ h.2.2.1 hne)⟩⟩
theorem BufD.le {H H' : IHeap} {size : Nat} {v : Value} {rows : List (List Value)} (h : BufD H size v rows) (k : H.le H') : BufD H' size v rows := by
  rcases h with h | ⟨hne, h | ⟨b, h⟩⟩
  · exact .inl h
  · exact .inr ⟨hne, .inl (h.le k)⟩
  · exact .inr ⟨hne, .inr ⟨b, h.fr (k.fr fun _ => False) fun _ _ h => h⟩⟩

/-- Notes as they lie: an own slice each for the votes. -/
def NtsD (D : Nat → Prop) (H : IHeap) (v : Value) (l : List NoteD) : Prop :=
  ∃ us : List Value, us.length = l.length ∧ SwD D H 7 v (List.zipWith rowN l us) ∧ (∀ (i : Nat) (x : NoteD) (u : Value), l[i]? = some x → us[i]? = some u → SwD D H 4 u (x.votes.map rowV)) ∧ BufD H 7 v (List.zipWith rowN l us)
theorem NtsD.le {D : Nat → Prop} {H H' : IHeap} {v : Value} {l : List NoteD} (h : NtsD D H v l) (k : H.le H') : NtsD D H' v l := by
  obtain ⟨us, h1, h2, h3, h4⟩ := h
  exact ⟨us, h1, h2.le k, fun i x u a b => (h3 i x u a b).le k, h4.le k⟩
theorem NtsD.weak {D D' : Nat → Prop} {H : IHeap} {v : Value} {l : List NoteD} (h : NtsD D H v l) (hd : ∀ b, D b → D' b) : NtsD D' H v l := by
  obtain ⟨us, h1, h2, h3, h4⟩ := h
  exact ⟨us, h1, h2.weak hd, fun i x u a b => (h3 i x u a b).weak hd, h4⟩
theorem NtsD.fr {B D : Nat → Prop} {H H' : IHeap} {v : Value} {l : List NoteD} (h : NtsD D H v l) (k : Fr B H H') (hd : ∀ b, D b → ¬ B b) : NtsD D H' v l := by
  obtain ⟨us, h1, h2, h3, h4⟩ := h
  exact ⟨us, h1, h2.fr k hd, fun i x u a b => (h3 i x u a b).fr k hd, h4.fr h2.1 k hd⟩
theorem NtsD.nil (D : Nat → Prop) (H : IHeap) : NtsD D H (.slice none 0 0) [] := ⟨[], rfl, SwD.nil D H 7, by simp, .inl ⟨rfl, rfl⟩⟩
theorem zip_len {l : List NoteD} {us : List Value} (h : us.length = l.length) : (List.zipWith rowN l us).length = l.length := by rw [List.length_zipWith, h, Nat.min_self]
theorem NtsD.len {D : Nat → Prop} {H : IHeap} {v : Value} {l : List NoteD} (h : NtsD D H v l) : ∃ a cap, v = .slice a l.length cap := by
  obtain ⟨us, h1, ⟨⟨⟨a, cap, e, _⟩, _⟩, _⟩, _, _⟩ := h
  rw [zip_len h1] at e
  exact ⟨a, cap, e⟩
/-- One of them, where it stands. -/
theorem NtsD.at {D : Nat → Prop} {H : IHeap} {v : Value} {l : List NoteD} (h : NtsD D H v l) {i : Nat} {x : NoteD} (hi : l[i]? = some x) :
    ∃ b o cap cs ro u, v = .slice (some ⟨b, o, none⟩) l.length cap ∧ b < H.next ∧ H.get b = some (.cells cs ro) ∧ (cs.drop (o + i * 7)).take 7 = rowN x u ∧ o + i * 7 + 7 ≤ cs.length ∧ SwD D H 4 u (x.votes.map rowV) ∧ D b := by
  obtain ⟨us, h1, h2, h3, _⟩ := h
  have hl := (List.getElem?_eq_some_iff.1 hi).1
  have hu : us[i]? = some us[i] := List.getElem?_eq_getElem (by omega)
  have hz : (List.zipWith rowN l us)[i]? = some (rowN x us[i]) := by rw [List.getElem?_zipWith, hi, hu]
  obtain ⟨b, o, cap, cs, ro, e, hb, hg, _, hr, hbd⟩ := h2.1.sl.at hz
  have e' := e
  rw [zip_len h1] at e
  exact ⟨b, o, cap, cs, ro, us[i], e, hb, hg, hr, hbd, h3 i x _ hi hu, h2.1.2 b o _ _ e' (by intro h; rw [h] at hz; simp at hz)⟩

/-! ### who accepts -/
theorem IsA.far {H H' : IHeap} {p q : Nat} {A : Acc} (h : IsA H p q A) (hq : H.next ≤ q) (q' : Nat) (hn : p ≠ q') : IsA H p q' A := by
  obtain ⟨h1, h2, ⟨u, g1, g2⟩, h4⟩ := h
  refine ⟨h1, hn, ⟨u, g1, ?_⟩, h4⟩
  rcases g2 with g2 | ⟨cs, g2, _⟩
  · exact .inl g2
  · omega
structure AcB (B : Nat → Prop) (H : IHeap) (p : Nat) (A : Acc) : Prop where
  lt : ∀ b, B b → b < H.next
  own : B p
  rep : ∃ q, IsA H p q A ∧ (B q ∨ H.next ≤ q)
theorem AcB.fr {B C : Nat → Prop} {H H' : IHeap} {p : Nat} {A : Acc} (h : AcB B H p A) (k : Fr C H H') (hd : ∀ b, B b → ¬ C b) : AcB B H' p A := by
  obtain ⟨h1, h2, q, h3, h4⟩ := h
  have hn := k.next
  refine ⟨fun b hb => Nat.lt_of_lt_of_le (h1 b hb) k.next, h2, ?_⟩
  have hp := h1 p h2
  obtain ⟨q', i', hq'⟩ : ∃ q', IsA H p q' A ∧ (B q' ∨ H'.next ≤ q') := by
    rcases h4 with h4 | h4
    · exact ⟨q, h3, .inl h4⟩
    · exact ⟨H'.next, h3.far (H' := H) h4 _ (by omega), .inr (Nat.le_refl _)⟩
  refine ⟨q', ?_, hq'⟩
  obtain ⟨a1, a2, ⟨u, g1, g2⟩, a4⟩ := i'
  refine ⟨Nat.lt_of_lt_of_le a1 hn, a2, ⟨u, (k.get p hp (hd p h2)).trans g1, ?_⟩, a4⟩
  rcases g2 with g2 | ⟨cs, g2, g3, g4, g5⟩
  · exact .inl g2
  · have : B q' := hq'.resolve_right (by omega)
    exact .inr ⟨cs, by omega, g3, (k.get q' g2 (hd q' this)).trans g4, g5⟩
theorem AcB.le {B : Nat → Prop} {H H' : IHeap} {p : Nat} {A : Acc} (h : AcB B H p A) (k : H.le H') : AcB B H' p A := h.fr (k.fr fun _ => False) fun _ _ h => h
/-- Turned by a call: its blocks, and maybe a new one. -/
theorem AcB.turn {B : Nat → Prop} {H H' : IHeap} {p q q' : Nat} {A A' : Acc} (h : AcB B H p A) (hq : B q ∨ H.next ≤ q) (hu : ∀ b, b < H.next → b ≠ p → b ≠ q → H'.get b = H.get b) (hn : H.next ≤ H'.next)
    (hi : IsA H' p q' A') (hq' : q' = q ∨ H.next ≤ q') : Fr B H H' ∧ AcB (fun b => B b ∨ (b = q' ∧ q' < H'.next)) H' p A' := by
  refine ⟨⟨hn, fun b hb hnb => hu b hb (fun e => hnb (e ▸ h.own)) fun e => ?_⟩, ⟨fun b hb => ?_, .inl h.own, ⟨q', hi, ?_⟩⟩⟩
  · rcases hq with hq | hq
    · exact hnb (e ▸ hq)
    · omega
  · rcases hb with hb | ⟨rfl, hb⟩
    · exact Nat.lt_of_lt_of_le (h.lt b hb) hn
    · exact hb
  · by_cases hl : q' < H'.next
    · exact .inl (.inr ⟨rfl, hl⟩)
    · exact .inr (by omega)
theorem AcB.sorted {B : Nat → Prop} {H : IHeap} {p : Nat} {A : Acc} (h : AcB B H p A) : Sorted A.L := h.rep.elim fun _ h => h.1.sorted

/-! ### who learns -/
structure LrB (B : Nat → Prop) (H : IHeap) (p : Nat) (l : Lr) : Prop where
  lt : ∀ b, B b → b < H.next
  own : B p
  rep : ∃ r1 r2, B r1 ∧ B r2 ∧ IsL H p r1 r2 l
theorem LrB.fr {B C : Nat → Prop} {H H' : IHeap} {p : Nat} {l : Lr} (h : LrB B H p l) (k : Fr C H H') (hd : ∀ b, B b → ¬ C b) : LrB B H' p l := by
  obtain ⟨h1, h2, r1, r2, h3, h4, h5⟩ := h
  refine ⟨fun b hb => Nat.lt_of_lt_of_le (h1 b hb) k.next, h2, r1, r2, h3, h4, ?_⟩
  have g := fun b hb => k.get b (h1 b hb) (hd b hb)
  exact ⟨Nat.lt_of_lt_of_le h5.lt k.next, h5.ok, (g p h2).trans h5.get, h5.told.same k.next (g r1 h3), h5.votes.same k.next (g r2 h4), h5.ne⟩
theorem LrB.le {B : Nat → Prop} {H H' : IHeap} {p : Nat} {l : Lr} (h : LrB B H p l) (k : H.le H') : LrB B H' p l := h.fr (k.fr fun _ => False) fun _ _ h => h
theorem LrB.ok {B : Nat → Prop} {H : IHeap} {p : Nat} {l : Lr} (h : LrB B H p l) : l.ok := by obtain ⟨_, _, _, _, h⟩ := h.rep; exact h.ok

/-! ### what is computed -/
def scanDown (f : Int → Bool) (fr : Int) : Nat → Int
  | 0 => fr
  | k + 1 => if f (fr + k) then fr + k + 1 else scanDown f fr k
theorem scanDown_le (f : Int → Bool) (fr : Int) : ∀ k, fr ≤ scanDown f fr k ∧ scanDown f fr k ≤ fr + k ∧ (∀ s, fr ≤ s → s < fr + k → f s = true → s < scanDown f fr k) ∧ (scanDown f fr k = fr ∨ f (scanDown f fr k - 1) = true)
  | 0 => ⟨Int.le_refl _, by simp [scanDown], fun s h1 h2 => by omega, .inl rfl⟩
  | k + 1 => by
    obtain ⟨h1, h2, h3, h4⟩ := scanDown_le f fr k
    simp only [scanDown]
    cases hf : f (fr + k) with
    | true => exact ⟨by simp; omega, by simp; omega, fun s a b _ => by simp; omega, .inr (by simp only [if_true]; rw [show fr + (k : Int) + 1 - 1 = fr + k by omega]; exact hf)⟩
    | false =>
      refine ⟨h1, by simp only [Bool.false_eq_true, if_false]; omega, fun s a b c => ?_, h4⟩
      simp only [Bool.false_eq_true, if_false]
      by_cases hs : s = fr + k
      · rw [hs, hf] at c; cases c
      · exact h3 s a (by omega) c
def endP (P : Pro) : Int := scanDown (fun s => (P.best s).isSome) P.fr (P.next - P.fr).toNat
theorem endP_ok {P : Pro} (h : P.ok) : IsEnd P (endP P) := by
  obtain ⟨_, _, _, h4, h5, h6, _, h8⟩ := h
  obtain ⟨a1, a2, a3, a4⟩ := scanDown_le (fun s => (P.best s).isSome) P.fr (P.next - P.fr).toNat
  refine ⟨a1, fun s v hs => ?_, a4.imp id fun h => ?_⟩
  · obtain ⟨_, b1, b2, _⟩ := h8 s v hs
    exact a3 s b1 (by omega) (by rw [hs]; rfl)
  · exact Option.isSome_iff_exists.1 h
theorem endP_bd {P : Pro} (h : P.ok) : P.fr ≤ endP P ∧ endP P ≤ P.next := by
  obtain ⟨_, _, _, h4, h5, h6, _, h8⟩ := h
  obtain ⟨a1, a2, _⟩ := scanDown_le (fun s => (P.best s).isSome) P.fr (P.next - P.fr).toNat
  exact ⟨a1, by show scanDown _ _ _ ≤ _; omega⟩
def scanUp (f : Int → Bool) (s : Int) : Nat → Int
  | 0 => s
  | k + 1 => if f s then scanUp f (s + 1) k else s
theorem scanUp_ok (f : Int → Bool) : ∀ (k : Nat) (s : Int), s ≤ scanUp f s k ∧ scanUp f s k ≤ s + k ∧ (∀ t, s ≤ t → t < scanUp f s k → f t = true) ∧ (scanUp f s k < s + k → f (scanUp f s k) = false)
  | 0, s => ⟨Int.le_refl _, by simp [scanUp], fun t h1 h2 => by simp [scanUp] at h2; omega, fun h => by simp [scanUp] at h⟩
  | k + 1, s => by
    obtain ⟨h1, h2, h3, h4⟩ := scanUp_ok f k (s + 1)
    simp only [scanUp]
    cases hf : f s with
    | true =>
      simp only [if_true]
      refine ⟨by omega, by omega, fun t a b => ?_, fun h => h4 (by omega)⟩
      by_cases hs : t = s
      · rw [hs]; exact hf
      · exact h3 t (by omega) b
    | false => simp only [Bool.false_eq_true, if_false]; exact ⟨Int.le_refl _, by omega, fun t a b => by omega, fun _ => hf⟩
def nextL (l : Lr) : Int := scanUp (fun s => (l.told s).isSome) l.base (1024 - l.base).toNat
theorem nextL_ok {l : Lr} (h : l.ok) : IsNext l (nextL l) := by
  obtain ⟨_, _, h3, h4, h5⟩ := h
  obtain ⟨a1, a2, a3, a4⟩ := scanUp_ok (fun s => (l.told s).isSome) (1024 - l.base).toNat l.base
  refine ⟨a1, by show scanUp _ _ _ ≤ 1024; omega, ?_, fun t b1 b2 => ?_⟩
  · cases ht : l.told (nextL l) with
    | none => rfl
    | some x =>
      have := h5 (nextL l) (by rw [ht]; simp)
      have hlt : nextL l < l.base + (1024 - l.base).toNat := by omega
      have := a4 hlt
      rw [show scanUp (fun s => (l.told s).isSome) l.base (1024 - l.base).toNat = nextL l from rfl, ht] at this
      cases this
  · have := a3 t b1 b2
    intro hn
    rw [hn] at this
    cases this
def logL (l : Lr) (u : Int) : List ByteArray := (List.range (nextL l - (if u < l.base then l.base else u)).toNat).map fun (i : Nat) => (l.told ((if u < l.base then l.base else u) + i)).getD noS

end Go.Proofs.YtpbbjfighohokaaI
namespace Go.Proofs.YtpbbjfighohokaaI
set_option linter.unusedSimpArgs false
set_option linter.unusedVariables false
open Go

theorem SlW.swD {H : IHeap} {n size : Nat} {v : Value} {rows : List (List Value)} (h : SlW H size v rows) (f : Fresh n v) : SwD (fun b => n ≤ b ∧ b < H.next) H size v rows := by
  refine ⟨⟨h.1, fun b o m c e hr => ⟨f b o m c e, ?_⟩⟩, h⟩
  obtain ⟨a, cap, e2, h2⟩ := h.1
  obtain ⟨b', o', cs, ro, rfl, hb, _⟩ := h2 hr
  rw [e] at e2
  simp only [Value.slice.injEq, Option.some.injEq, Addr.mk.injEq] at e2
  obtain ⟨⟨rfl, -⟩, -⟩ := e2
  exact hb

def trimTo (l : Lr) (u : Int) : Int := if (if nextL l < u then nextL l else u) < l.base then l.base else (if nextL l < u then nextL l else u)
section
variable (c : Ctx) {H : IHeap} {K : Value → IHeap → Prop} {B : Nat → Prop} {p : Nat}

theorem ANewB (hc : HasAcc c) (hK : ∀ p B H', H.le H' → (∀ b, B b → H.next ≤ b) → AcB B H' p ⟨0, 0, 0, []⟩ → K (.pointer (some ⟨p, 0, none⟩)) H') : c.C (c.F n_acceptor_New) [] H K := by
  refine ANew_ok c hc fun H' k i => hK _ (fun b => H.next ≤ b ∧ b < H'.next) H' k (fun b hb => hb.1) ⟨fun b hb => hb.2, ⟨Nat.le_refl _, i.lt⟩, H.next + 1, i, ?_⟩
  by_cases hb : H.next + 1 < H'.next
  · exact .inl ⟨by omega, hb⟩
  · exact .inr (by omega)
theorem APromisedB (hc : HasAcc c) {A : Acc} (h : AcB B H p A) (hK : ∀ H', H.le H' → K (vB A.pa A.pn) H') : c.C (c.F n_acceptor_Acceptor_Promised) [.pointer (some ⟨p, 0, none⟩)] H K :=
  h.rep.elim fun _ h => APromised_ok c hc h.1 hK
theorem ABaseB (hc : HasAcc c) {A : Acc} (h : AcB B H p A) (hK : K (.int .i64 A.base) H) : c.C (c.F n_acceptor_Acceptor_Base) [.pointer (some ⟨p, 0, none⟩)] H K :=
  h.rep.elim fun _ h => ABase_ok c hc h.1 hK
theorem APromiseB (hc : HasAcc c) (hB : HasBalA c) {A : Acc} {a n s : Int} (h : AcB B H p A) (hl : A.L.length ≤ 1000000)
    (hK : ∀ v' H', Fr B H H' → AcB B H' p (A.promise a n s).1 → SwD (fun b => H.next ≤ b ∧ b < H'.next) H' 4 v' ((A.promise a n s).2.1.map rowV) → K (.tuple #[v', .bool (A.promise a n s).2.2]) H') :
    c.C (c.F n_acceptor_Acceptor_Promise) [.pointer (some ⟨p, 0, none⟩), vB a n, .int .i64 s] H K := by
  obtain ⟨q, i, hq⟩ := h.rep
  refine APromise_ok c hc hB i hl fun v' H' u f s' f' => hK v' H' (u.fr (by simpa using h.own)) ⟨fun b hb => Nat.lt_of_lt_of_le (h.lt b hb) u.next, h.own, ?_⟩ (s'.swD f')
  rcases hq with hq | hq
  · exact ⟨q, f q i, .inl hq⟩
  · exact ⟨H'.next, f _ (i.far (H' := H) hq _ (by have := i.lt; have := u.next; omega)), .inr (Nat.le_refl _)⟩
theorem AAcceptB (hc : HasAcc c) (hB : HasBalA c) (hI : InsOk c) {A : Acc} {v : VoteD} (h : AcB B H p A) (hl : A.L.length ≤ 1000000)
    (hK : ∀ H' B', Fr B H H' → (∀ b, B' b → B b ∨ H.next ≤ b) → AcB B' H' p (A.accept v).1 → K (.bool (A.accept v).2) H') :
    c.C (c.F n_acceptor_Acceptor_Accept) [.pointer (some ⟨p, 0, none⟩), vV v] H K := by
  obtain ⟨q, i, hq⟩ := h.rep
  refine AAccept_ok c hc hB hI i hl fun q' H' u e i' => ?_
  obtain ⟨f1, f2⟩ := h.turn hq (fun b hb h1 h2 => u.get b hb (by simp [h1, h2])) u.next i' e
  refine hK H' _ f1 (fun b hb => ?_) f2
  rcases hb with hb | ⟨rfl, hb⟩
  · exact .inl hb
  · rcases e with rfl | e
    · exact hq
    · exact .inr e

variable (hl : HasLearner c) (hT : LearnT c)
include hl

theorem LNewB (hB : HasBalB c) {n : Int} (h0 : quorumI n = 0 → K (.pointer none) H) (h1 : quorumI n ≠ 0 → ∀ p B H', H.le H' → (∀ b, B b → H.next ≤ b) → LrB B H' p ⟨n, 0, fun _ => none, fun _ => none⟩ → K (.pointer (some ⟨p, 0, none⟩)) H') :
    c.C (c.F n_learner_New) [.int .i64 n] H K := by
  refine LNew_ok c hl hB h0 fun hq p r1 r2 H' a1 a2 a3 k i => h1 hq p (fun b => b = p ∨ b = r1 ∨ b = r2) H' k (fun b hb => by omega) ⟨fun b hb => ?_, .inl rfl, r1, r2, .inr (.inl rfl), .inr (.inr rfl), i⟩
  rcases hb with rfl | rfl | rfl
  · exact i.lt
  · exact i.told.lt
  · exact i.votes.lt
theorem LBaseB {l : Lr} (h : LrB B H p l) (hK : K (.int .i64 l.base) H) : c.C (c.F n_learner_Learner_Base) [.pointer (some ⟨p, 0, none⟩)] H K := by
  obtain ⟨_, _, _, _, i⟩ := h.rep
  exact LBase_ok c hl i hK
include hT
theorem LNextB {l : Lr} (h : LrB B H p l) (hK : K (.int .i64 (nextL l)) H) : c.C (c.F n_learner_Learner_Next) [.pointer (some ⟨p, 0, none⟩)] H K := by
  obtain ⟨_, _, _, _, i⟩ := h.rep
  exact LNext_ok c hl hT i fun s hs => by rw [hs.uniq (nextL_ok i.ok)]; exact hK
theorem LTellB {l : Lr} {s : Int} {v : ByteArray} (h : LrB B H p l) (hK : ∀ H', Fr B H H' → LrB B H' p (if mayB l s v = true then l.tell s v else l) → K (.bool (mayB l s v)) H') :
    c.C (c.F n_learner_Learner_Tell) [.pointer (some ⟨p, 0, none⟩), .int .i64 s, .string v] H K := by
  obtain ⟨r1, r2, b1, b2, i⟩ := h.rep
  refine Tell_ok c hl hT i fun H' u i' => hK H' (u.fr ?_) ⟨fun b hb => Nat.lt_of_lt_of_le (h.lt b hb) u.next, h.own, r1, r2, b1, b2, i'⟩
  intro b hb
  simp only [List.mem_cons, List.not_mem_nil, or_false] at hb
  rcases hb with rfl | rfl | rfl
  · exact h.own
  · exact b1
  · exact b2
theorem LTrimB {l : Lr} {s : Int} (h : LrB B H p l) (hK : ∀ H', Fr B H H' → LrB B H' p (l.trim (trimTo l s)) → K (.int .i64 (trimTo l s - l.base)) H') :
    c.C (c.F n_learner_Learner_Trim) [.pointer (some ⟨p, 0, none⟩), .int .i64 s] H K := by
  obtain ⟨r1, r2, b1, b2, i⟩ := h.rep
  refine Trim_ok c hl hT i fun H' b u q1 q2 q3 i' => ?_
  have e : b = trimTo l s := q3 _ (nextL_ok i.ok)
  subst e
  refine hK H' (u.fr ?_) ⟨fun b hb => Nat.lt_of_lt_of_le (h.lt b hb) u.next, h.own, r1, r2, b1, b2, i'⟩
  intro b hb
  simp only [List.mem_cons, List.not_mem_nil, or_false] at hb
  rcases hb with rfl | rfl | rfl
  · exact h.own
  · exact b1
  · exact b2
theorem LHearB (hN : CountT c) (hA : HasBalA c) (hB : HasBalB c) {l : Lr} {fr : Int} {v : VoteD} (h : LrB B H p l) (hK : ∀ H', Fr B H H' → LrB B H' p (l.hear fr v).1 → K (.bool (l.hear fr v).2) H') :
    c.C (c.F n_learner_Learner_Hear) [.pointer (some ⟨p, 0, none⟩), .int .i64 fr, vV v] H K := by
  obtain ⟨r1, r2, b1, b2, i⟩ := h.rep
  refine Hear_ok c hl hT hN hA hB i fun H' u i' => hK H' (u.fr ?_) ⟨fun b hb => Nat.lt_of_lt_of_le (h.lt b hb) u.next, h.own, r1, r2, b1, b2, i'⟩
  intro b hb
  simp only [List.mem_cons, List.not_mem_nil, or_false] at hb
  rcases hb with rfl | rfl | rfl
  · exact h.own
  · exact b1
  · exact b2
theorem LLogB {l : Lr} {u : Int} (h : LrB B H p l) (hK : ∀ v H', H.le H' → Grow H' H.next 1 v ((logL l u).map fun x => [.string x]) → K v H') :
    c.C (c.F n_learner_Learner_Log) [.pointer (some ⟨p, 0, none⟩), .int .i64 u] H K := by
  obtain ⟨_, _, _, _, i⟩ := h.rep
  refine Log_ok c hl hT i fun nx v vals H' hn k g e1 e2 => ?_
  have hnx := hn.uniq (nextL_ok i.ok)
  subst hnx
  have : vals = logL l u := by
    refine List.ext_getElem? fun j => ?_
    unfold logL
    rw [List.getElem?_map]
    by_cases hj : j < vals.length
    · rw [List.getElem?_eq_getElem hj, List.getElem?_range (by omega), Option.map_some, e2 j hj]
      rfl
    · rw [List.getElem?_eq_none (by omega), List.getElem?_eq_none (by simp; omega)]
      rfl
  subst this
  exact hK v H' k g
end
end Go.Proofs.YtpbbjfighohokaaI
namespace Go.Proofs.YtpbbjfighohokaaI
attribute [local simp] J0 J1 J2 J3 J4 J5 J6 J7 J8 J9 Ja Jb Jc Jd Je Jf Jg Jh Ji Jj Jk Jl Jm Jn Jo Jp Jq Jr Js Jt Ju Jv Jw Jx Jy Jz JA JB JC JD JE JF JG JH JI JJ JK JL JM JN JO JP JQ JR JS stillI IOp.kind JT JU JV JW JX JY JZ Y0 Y1 Y2 Y3 Y4 Y5 Y6 Y7 Y8 Y9 Ya Yb Yc Yd Ye Yf Yg Yh Yi Yj Yk Yl Ym Yn Yo Yp Yq ial Yr Ys Yt Yu Yv Yw Yx Yy ires iresL ires1 Yz YA YB YC YD YE bin2 YF YG YH YI YJ YK YL YM YN YO YP YQ YR YS YT YU un1 shOk eqL eq1 fillL putAt IHeap.load1 IHeap.loadL IHeap.storeL YV YW YX YY YZ B0 B1 B2 B3 B4 B5 B6 B7 B8 B9 Ba Bb Bc Bd Be Bf Bg Bh Bi Bj Bk Bl Bm Bn Bo Bp
set_option linter.unusedSimpArgs false
set_option linter.unusedVariables false
open Go

structure Rp where
  n : Int
  me : Int
  A : Acc
  P : Pro
  L : Lr
def AccOk (A : Acc) : Prop := 0 ≤ A.base ∧ A.base ≤ 1024 ∧ validB A.pa A.pn = true ∧ ∀ v ∈ A.L, A.base ≤ v.slot ∧ v.slot < 1024 ∧ validB v.a v.n = true ∧ v.val.size ≤ 4096
theorem sorted_len : ∀ {L : List VoteD} {lo : Int}, Sorted L → (∀ v ∈ L, lo ≤ v.slot ∧ v.slot < 1024) → lo ≤ 1024 → (L.length : Int) ≤ 1024 - lo
  | [], lo, _, _, h => by simp; omega
  | v :: L, lo, hs, hb, _ => by
    have hs' := List.pairwise_cons.1 hs
    have h1 := hb v (by simp)
    have := sorted_len (lo := v.slot + 1) hs'.2 (fun w hw => ⟨by have := hs'.1 w hw; omega, (hb w (by simp [hw])).2⟩) (by omega)
    simp only [List.length_cons]
    omega
theorem acc_len {A : Acc} (h : AccOk A) (hs : Sorted A.L) : A.L.length ≤ 1024 := by
  have := sorted_len (lo := 0) hs (fun v hv => ⟨by have := (h.2.2.2 v hv).1; have := h.1; omega, (h.2.2.2 v hv).2.1⟩) (by omega)
  omega

/-- How it stands, with the blocks of its three. -/
structure RpAt (H : IHeap) (p pa pp pl : Nat) (Bxa Bxp Bxl : Nat → Prop) (R : Rp) : Prop where
  lt : p < H.next
  get : H.get p = some (.cells [.int .i64 R.n, .int .i64 R.me, .pointer (some ⟨pa, 0, none⟩), .pointer (some ⟨pp, 0, none⟩), .pointer (some ⟨pl, 0, none⟩)] false)
  a : AcB Bxa H pa R.A
  q : IsP Bxp H pp R.P
  l : LrB Bxl H pl R.L
  na : ¬ Bxa p
  np : ¬ Bxp p
  nl : ¬ Bxl p
  ap : ∀ b, Bxa b → ¬ Bxp b
  al : ∀ b, Bxa b → ¬ Bxl b
  pl : ∀ b, Bxp b → ¬ Bxl b
def uni (p : Nat) (Bxa Bxp Bxl : Nat → Prop) : Nat → Prop := fun b => b = p ∨ Bxa b ∨ Bxp b ∨ Bxl b
theorem RpAt.uni_lt {H : IHeap} {p pa pp pl : Nat} {Bxa Bxp Bxl : Nat → Prop} {R : Rp} (h : RpAt H p pa pp pl Bxa Bxp Bxl R) : ∀ b, uni p Bxa Bxp Bxl b → b < H.next := by
  intro b hb
  rcases hb with rfl | hb | hb | hb
  · exact h.lt
  · exact h.a.lt b hb
  · exact h.q.lt b hb
  · exact h.l.lt b hb
theorem RpAt.fr {H H' : IHeap} {p pa pp pl : Nat} {Bxa Bxp Bxl C : Nat → Prop} {R : Rp} (h : RpAt H p pa pp pl Bxa Bxp Bxl R) (k : Fr C H H') (hd : ∀ b, uni p Bxa Bxp Bxl b → ¬ C b) : RpAt H' p pa pp pl Bxa Bxp Bxl R :=
  ⟨Nat.lt_of_lt_of_le h.lt k.next, (k.get p h.lt (hd p (.inl rfl))).trans h.get, h.a.fr k fun b hb => hd b (.inr (.inl hb)), h.q.fr k fun b hb => hd b (.inr (.inr (.inl hb))), h.l.fr k fun b hb => hd b (.inr (.inr (.inr hb))), h.na, h.np, h.nl, h.ap, h.al, h.pl⟩
theorem RpAt.le {H H' : IHeap} {p pa pp pl : Nat} {Bxa Bxp Bxl : Nat → Prop} {R : Rp} (h : RpAt H p pa pp pl Bxa Bxp Bxl R) (k : H.le H') : RpAt H' p pa pp pl Bxa Bxp Bxl R := h.fr (k.fr fun _ => False) fun _ _ h => h
theorem RpAt.acc {H H' : IHeap} {p pa pp pl : Nat} {Bxa Bxp Bxl B' : Nat → Prop} {R : Rp} {A : Acc} (h : RpAt H p pa pp pl Bxa Bxp Bxl R) (k : Fr Bxa H H') (hb : ∀ b, B' b → Bxa b ∨ H.next ≤ b) (a : AcB B' H' pa A) :
    RpAt H' p pa pp pl B' Bxp Bxl { R with A := A } ∧ Fr (uni p Bxa Bxp Bxl) H H' ∧ ∀ b, uni p B' Bxp Bxl b → uni p Bxa Bxp Bxl b ∨ H.next ≤ b := by
  refine ⟨⟨Nat.lt_of_lt_of_le h.lt k.next, (k.get p h.lt h.na).trans h.get, a, h.q.fr k fun b x y => h.ap b y x, h.l.fr k fun b x y => h.al b y x, fun x => ?_, h.np, h.nl, fun b x y => ?_, fun b x y => ?_, h.pl⟩, k.weak fun b x => .inr (.inl x), fun b x => ?_⟩
  · rcases hb p x with x | x
    · exact h.na x
    · have := h.lt; omega
  · rcases hb b x with x | x
    · exact h.ap b x y
    · have := h.q.lt b y; omega
  · rcases hb b x with x | x
    · exact h.al b x y
    · have := h.l.lt b y; omega
  · rcases x with x | x | x | x
    · exact .inl (.inl x)
    · exact (hb b x).imp (fun x => .inr (.inl x)) id
    · exact .inl (.inr (.inr (.inl x)))
    · exact .inl (.inr (.inr (.inr x)))
theorem RpAt.pro {H H' : IHeap} {p pa pp pl : Nat} {Bxa Bxp Bxl B' : Nat → Prop} {R : Rp} {P : Pro} (h : RpAt H p pa pp pl Bxa Bxp Bxl R) (k : Fr Bxp H H') (hb : ∀ b, B' b → Bxp b ∨ H.next ≤ b) (a : IsP B' H' pp P) :
    RpAt H' p pa pp pl Bxa B' Bxl { R with P := P } ∧ Fr (uni p Bxa Bxp Bxl) H H' ∧ ∀ b, uni p Bxa B' Bxl b → uni p Bxa Bxp Bxl b ∨ H.next ≤ b := by
  refine ⟨⟨Nat.lt_of_lt_of_le h.lt k.next, (k.get p h.lt h.np).trans h.get, h.a.fr k fun b x y => h.ap b x y, a, h.l.fr k fun b x y => h.pl b y x, h.na, fun x => ?_, h.nl, fun b x y => ?_, h.al, fun b x y => ?_⟩, k.weak fun b x => .inr (.inr (.inl x)), fun b x => ?_⟩
  · rcases hb p x with x | x
    · exact h.np x
    · have := h.lt; omega
  · rcases hb b y with y | y
    · exact h.ap b x y
    · have := h.a.lt b x; omega
  · rcases hb b x with x | x
    · exact h.pl b x y
    · have := h.l.lt b y; omega
  · rcases x with x | x | x | x
    · exact .inl (.inl x)
    · exact .inl (.inr (.inl x))
    · exact (hb b x).imp (fun x => .inr (.inr (.inl x))) id
    · exact .inl (.inr (.inr (.inr x)))
theorem RpAt.lea {H H' : IHeap} {p pa pp pl : Nat} {Bxa Bxp Bxl : Nat → Prop} {R : Rp} {L : Lr} (h : RpAt H p pa pp pl Bxa Bxp Bxl R) (k : Fr Bxl H H') (a : LrB Bxl H' pl L) :
    RpAt H' p pa pp pl Bxa Bxp Bxl { R with L := L } ∧ Fr (uni p Bxa Bxp Bxl) H H' :=
  ⟨⟨Nat.lt_of_lt_of_le h.lt k.next, (k.get p h.lt h.nl).trans h.get, h.a.fr k fun b x y => h.al b x y, h.q.fr k fun b x y => h.pl b x y, a, h.na, h.np, h.nl, h.ap, h.al, h.pl⟩, k.weak fun b x => .inr (.inr (.inr x))⟩

def IsR (B : Nat → Prop) (H : IHeap) (p : Nat) (R : Rp) : Prop := ∃ pa pp pl Bxa Bxp Bxl, RpAt H p pa pp pl Bxa Bxp Bxl R ∧ ∀ b, B b ↔ uni p Bxa Bxp Bxl b
theorem IsR.lt {B : Nat → Prop} {H : IHeap} {p : Nat} {R : Rp} (h : IsR B H p R) : ∀ b, B b → b < H.next := by
  obtain ⟨_, _, _, _, _, _, h1, h2⟩ := h
  exact fun b hb => h1.uni_lt b ((h2 b).1 hb)
theorem IsR.fr {B C : Nat → Prop} {H H' : IHeap} {p : Nat} {R : Rp} (h : IsR B H p R) (k : Fr C H H') (hd : ∀ b, B b → ¬ C b) : IsR B H' p R := by
  obtain ⟨pa, pp, pl, Bxa, Bxp, Bxl, h1, h2⟩ := h
  exact ⟨pa, pp, pl, Bxa, Bxp, Bxl, h1.fr k (fun b hb => hd b ((h2 b).2 hb)), h2⟩
theorem IsR.le {B : Nat → Prop} {H H' : IHeap} {p : Nat} {R : Rp} (h : IsR B H p R) (k : H.le H') : IsR B H' p R := h.fr (k.fr fun _ => False) fun _ _ h => h
theorem Fr.iff {B C : Nat → Prop} {H H' : IHeap} (h : Fr B H H') (k : ∀ b, C b ↔ B b) : Fr C H H' := h.weak fun b hb => (k b).2 hb

def Rp.ok (R : Rp) : Prop := R.P.ok ∧ R.P.n = R.n ∧ R.P.me = R.me ∧ R.L.n = R.n ∧ AccOk R.A
def allN (R : Rp) (x : NoteD) : List NoteD := (List.range R.n.toNat).map fun (i : Nat) => { x with fr := R.me, to := (i : Int) }

/-! ### a note to all -/
/-- So many notes' rows, and room. -/
def Laid7 (cs : List Value) (N : Nat) (l : List NoteD) (us : List Value) : Prop := cs.length = N * 7 ∧ us.length = l.length ∧ l.length ≤ N ∧ cs.take (l.length * 7) = (List.zipWith rowN l us).flatten
theorem rowN_len (x : NoteD) (u : Value) : (rowN x u).length = 7 := rfl
theorem Laid7.put {cs cs' : List Value} {N : Nat} {l : List NoteD} {us : List Value} {x : NoteD} {u : Value} (h : Laid7 cs N l us) (hl : l.length < N)
    (hp : cs' = cs.take (l.length * 7) ++ (rowN x u ++ cs.drop (l.length * 7 + 7))) : Laid7 cs' N (l ++ [x]) (us ++ [u]) := by
  obtain ⟨h1, h2, h3, h4⟩ := h
  have ht : (cs.take (l.length * 7)).length = l.length * 7 := by rw [List.length_take, h1]; omega
  refine ⟨?_, by simp [h2], by simp; omega, ?_⟩
  · rw [hp, List.length_append, List.length_append, ht, rowN_len, List.length_drop, h1]; omega
  · have e : cs' = (cs.take (l.length * 7) ++ rowN x u) ++ cs.drop (l.length * 7 + 7) := by rw [hp, List.append_assoc]
    have hlen : (cs.take (l.length * 7) ++ rowN x u).length = (l ++ [x]).length * 7 := by rw [List.length_append, ht, rowN_len, List.length_append, List.length_singleton]; omega
    rw [e, List.take_left' hlen, h4, List.zipWith_append h2.symm]
    simp

theorem put_mid7 {pre mid tail : List Value} {n k : Nat} (hn : pre.length = n) (hk : k < mid.length) (v : Value) :
    (pre ++ (mid ++ tail)).take (n + k) ++ v :: (pre ++ (mid ++ tail)).drop (n + k + 1) = pre ++ (mid.set k v ++ tail) := by
  subst hn
  rw [List.take_append, List.take_of_length_le (by omega), Nat.add_sub_cancel_left, List.drop_append, List.drop_of_length_le (by omega), List.nil_append, show pre.length + k + 1 - pre.length = k + 1 by omega,
    List.take_append, List.drop_append, show k - mid.length = 0 by omega, show k + 1 - mid.length = 0 by omega, List.take_zero, List.drop_zero, List.append_nil, List.append_assoc]
  congr 1
  rw [List.set_eq_take_append_cons_drop, if_pos hk]
  simp

section
variable (c : Ctx) (hr : HasRepl c) {H : IHeap} {K : Value → IHeap → Prop} {B : Nat → Prop} {p : Nat} {R : Rp}

include hr in
theorem Rall_ok {x : NoteD} {u : Value} {D : Nat → Prop} (hp : p < H.next) (g : ∃ y z w, H.get p = some (.cells [.int .i64 R.n, .int .i64 R.me, y, z, w] false)) (h0 : 1 ≤ R.n) (h7 : R.n ≤ 7) (hu : SwD D H 4 u (x.votes.map rowV)) (hvl : x.votes.length ≤ 1000000)
    (hK : ∀ v H', H.le H' → NtsD (fun b => H.next ≤ b ∧ b < H'.next) H' v (allN R x) → K v H') :
    c.C (c.F n_replica_Replica_all) [.pointer (some ⟨p, 0, none⟩), .agg (rowN x u).toArray] H K := by
  refine c.enter hr.replica_Replica_all rfl ?_
  obtain ⟨y, z, w, g⟩ := g
  obtain ⟨N, hN⟩ : ∃ N : Nat, R.n = N := ⟨R.n.toNat, by omega⟩
  have e1 : ¬ p = H.next := by omega
  obtain ⟨Z, hZ⟩ : ∃ Z : List Value, Z = (List.range (N * 7)).map fun x => [Value.int .i64 0, Value.int .i64 0, Value.int .i64 0, Value.int .i64 0, Value.int .i64 0, Value.int .i64 0, Value.slice none 0 0][x % 7]?.getD default := ⟨_, rfl⟩
  obtain ⟨H1, hH1⟩ : ∃ X : IHeap, X = (H.alloc (.cells (rowN x u) false)).alloc (.cells Z false) := ⟨_, rfl⟩
  have c1 : (N : Int) ≤ 17592186044416 := by omega
  have c2 : (N : Int) * 72 ≤ 17592186044416 := by omega
  obtain ⟨us0, hus0, _⟩ : ∃ us : List Value, us = [] ∧ True := ⟨[], rfl, trivial⟩
  have n1 : H1.next = H.next + 2 := by rw [hH1]; rfl
  have k1 : H.le H1 := by rw [hH1]; exact (H.le_alloc _).alloc _
  have x1 : H1.get H.next = some (.cells (rowN x u) false) := by rw [hH1, YV, YX, if_neg (by omega), YV, if_pos rfl]
  have z1 : H1.get (H.next + 1) = some (.cells Z false) := by rw [hH1, YV, YX, if_pos rfl]
  have hH1' : (H.alloc (.cells [.int .i64 x.kind, .int .i64 x.fr, .int .i64 x.to, .int .i64 x.slot, .int .i64 x.ba, .int .i64 x.bn, u] false)).alloc (.cells ((List.range (N * 7)).map fun x => [Value.int .i64 0, Value.int .i64 0, Value.int .i64 0, Value.int .i64 0, Value.int .i64 0, Value.int .i64 0, Value.slice none 0 0][x % 7]?.getD default) false) = H1 := by rw [hH1, hZ]; rfl
  obtain ⟨ua, ucap, hue⟩ := hu.2.len
  rw [List.length_map] at hue
  have hzl : Z.length = N * 7 := by rw [hZ]; simp
  have hn7 : ∀ i, i < N → (allN R x)[i]? = some { x with fr := R.me, to := (i : Int) } := by
    intro i hi
    unfold allN
    rw [List.getElem?_map, List.getElem?_range (by rw [hN]; simpa using hi)]
    rfl
  have hall : (allN R x).length = N := by unfold allN; rw [List.length_map, List.length_range, hN]; simp
  simp -implicitDefEqProofs [c_replica_Replica_all, rowN, g, hN, e1, c1, c2, hH1']
  refine loop_nat c.mono (fun k T H' => ∃ (i : Nat) (us : List Value) (cs : List Value), i ≤ N ∧ k = N - i ∧ T 0 = .pointer (some ⟨p, 0, none⟩) ∧ T 3 = .pointer (some ⟨H.next, 0, none⟩) ∧ T 5 = .slice (some ⟨H.next + 1, 0, none⟩) N N ∧ T 13 = .int .i64 N ∧ T 14 = .int .i64 i ∧
    H.le H' ∧ H.next + 2 ≤ H'.next ∧ H'.get H.next = some (.cells (rowN x u) false) ∧ H'.get (H.next + 1) = some (.cells cs false) ∧ Laid7 cs N ((allN R x).take i) us ∧
    ∀ (j : Nat) (w : Value), us[j]? = some w → SwD (fun b => H.next + 2 ≤ b ∧ b < H'.next) H' 4 w (x.votes.map rowV)) N ?_ ?_
  · refine ⟨0, [], Z, by omega, rfl, ?_⟩
    simp -implicitDefEqProofs []
    exact ⟨k1, by omega, x1, z1, hzl, rfl, by simp, by simp⟩
  · rintro k T H' ⟨i, us, cs, hi, rfl, t0, t3, t5, t13, t14, kH, nH, xH, oH, lay, hus⟩
    by_cases hiN : i < N
    · have hiN' : (i : Int) < (N : Int) := by omega
      have gH := (kH.get p hp).trans g
      have hl1 := lay.1
      obtain ⟨csA, hA⟩ : ∃ X, X = cs.take (i * 7) ++ (rowN x u ++ cs.drop (i * 7 + 7)) := ⟨_, rfl⟩
      have wi : IntKind.i64.wrap ((i : Int) + 1) = (i : Int) + 1 := wrap64 (by omega) (by omega)
      have b1 : i * 7 + 7 ≤ cs.length := by omega
      have ht : (cs.take (i * 7)).length = i * 7 := by rw [List.length_take]; omega
      have lA : csA.length = cs.length := by rw [hA, List.length_append, List.length_append, ht, rowN_len, List.length_drop]; omega
      obtain ⟨csB, hBq⟩ : ∃ X, csA.take (i * 7 + 1) ++ Value.int .i64 R.me :: csA.drop (i * 7 + 2) = X := ⟨_, rfl⟩
      have hBm : csB = cs.take (i * 7) ++ ((rowN x u).set 1 (.int .i64 R.me) ++ cs.drop (i * 7 + 7)) := by rw [← hBq, hA]; exact put_mid7 ht (by rw [rowN_len]; omega) _
      have lB : csB.length = cs.length := by rw [hBm, List.length_append, List.length_append, ht, List.length_set, rowN_len, List.length_drop]; omega
      obtain ⟨csC, hCq⟩ : ∃ X, csB.take (i * 7 + 2) ++ Value.int .i64 (i : Int) :: csB.drop (i * 7 + 3) = X := ⟨_, rfl⟩
      have hCm : csC = cs.take (i * 7) ++ (((rowN x u).set 1 (.int .i64 R.me)).set 2 (.int .i64 (i : Int)) ++ cs.drop (i * 7 + 7)) := by rw [← hCq, hBm]; exact put_mid7 ht (by rw [List.length_set, rowN_len]; omega) _
      have lC : csC.length = cs.length := by rw [hCm, List.length_append, List.length_append, ht, List.length_set, List.length_set, rowN_len, List.length_drop]; omega
      subst hue
      obtain ⟨HC, hHC⟩ : ∃ X : IHeap, ((H'.set (H.next + 1) (.cells csA false)).set (H.next + 1) (.cells csB false)).set (H.next + 1) (.cells csC false) = X := ⟨_, rfl⟩
      have nHC : HC.next = H'.next := by rw [← hHC]; rfl
      have kHC : ∀ b, b ≠ H.next + 1 → HC.get b = H'.get b := fun b hb => by rw [← hHC, YW, if_neg hb, YW, if_neg hb, YW, if_neg hb]
      have oHC : HC.get (H.next + 1) = some (.cells csC false) := by rw [← hHC, YW, if_pos rfl]
      have kC : H.le HC := ⟨by rw [nHC]; exact kH.next, fun b hb => (kHC b (by omega)).trans (kH.get b hb)⟩
      have uC := (hu.le kC).2
      have uf := uC.first (by omega)
      rw [List.length_map] at uf
      obtain ⟨v2, H2, ap, gr, kp⟩ := copied (bytes := 40) uC (by omega) (by omega) (rowV_one x.votes) (by rw [List.length_map]; omega) (by rw [List.length_map]; omega) (Grow.nil HC HC.next 4) (Nat.le_refl _) (by rw [List.length_map]; simp; omega) (by rw [List.length_map]; simp; omega)
      rw [List.length_map] at ap
      obtain ⟨csD, hDq⟩ : ∃ X, csC.take (i * 7 + 6) ++ v2 :: csC.drop (i * 7 + 7) = X := ⟨_, rfl⟩
      have hDm : csD = cs.take (i * 7) ++ (rowN { x with fr := R.me, to := (i : Int) } v2 ++ cs.drop (i * 7 + 7)) := by rw [← hDq, hCm]; exact put_mid7 ht (by rw [List.length_set, List.length_set, rowN_len]; omega) _
      have g2 : H2.get (H.next + 1) = some (.cells csC false) := (kp.get _ (by omega)).trans oHC
      have x2 : H2.get H.next = some (.cells (rowN x (.slice ua x.votes.length ucap)) false) := (kp.get _ (by omega)).trans ((kHC _ (by omega)).trans xH)
      simp only [rowN] at xH hA
      have xC := (kHC H.next (by omega)).trans xH
      have b2 : i * 7 + 1 + 1 ≤ csA.length := by omega
      have b3 : i * 7 + 2 + 1 ≤ csB.length := by omega
      have b4 : i * 7 + 6 + 1 ≤ csC.length := by omega
      obtain ⟨v2a, v2c, hv2⟩ := gr.len
      have o2 : one1 v2 = true := by rw [hv2]; rfl
      have c2v : v2.cells = #[v2] := by rw [hv2]; rfl
      have ep1 : ¬ p = H.next + 1 := by omega
      have hA' := hA.symm
      simp only [List.cons_append, List.nil_append] at hA'
      simp -implicitDefEqProofs [t0, t3, t5, t13, t14, hiN, hiN', xH, oH, b1, gH, hA', hBq, b2, hCq, b3, hHC, ep1, xC, lenOfI, uf, ap, g2, hDq, b4, o2, c2v, wi]
      have hti : ((allN R x).take i).length = i := by rw [List.length_take]; omega
      have lay' : Laid7 csD N ((allN R x).take (i + 1)) (us ++ [v2]) := by
        rw [List.take_add_one, hn7 i hiN]
        exact lay.put (x := { x with fr := R.me, to := (i : Int) }) (by omega) (by rw [hti]; exact hDm)
      have kk : IHeap.le HC H2 := ⟨kp.next, fun b hb => kp.get b hb⟩
      have n2 := kp.next
      have f3 : Fr (fun b => b = H.next + 1) H' (H2.set (H.next + 1) (.cells csD false)) := by
        refine ⟨by rw [YY]; omega, fun b hb hne => ?_⟩
        rw [YW, if_neg hne, kk.get b (by omega), kHC b hne]
      refine ⟨N - (i + 1), by omega, i + 1, by omega, rfl, rfl, (kC.trans kk).set (by omega) _, by omega, x2, us ++ [v2], lay', fun j w hw => ?_⟩
      have hul : us.length = i := by have := lay.2.1; omega
      by_cases hj : j < us.length
      · rw [List.getElem?_append_left hj] at hw
        refine ((hus j w hw).fr f3 (fun b hb e => by omega)).weak fun b hb => ⟨hb.1, ?_⟩
        have := f3.next
        rw [YY] at this
        omega
      · rw [List.getElem?_append_right (by omega)] at hw
        have hz : j - us.length = 0 := by
          refine Classical.byContradiction fun hne => ?_
          rw [List.getElem?_eq_none (by simp; omega)] at hw
          cases hw
        rw [hz] at hw
        simp only [List.getElem?_cons_zero, Option.some.injEq] at hw
        subst hw
        have f4 : Fr (fun b => b = H.next + 1) H2 (H2.set (H.next + 1) (.cells csD false)) := (Fr.refl (fun b => b = H.next + 1) H2).set (.inl rfl) _
        exact (gr.swD.fr f4 (fun b hb e => by omega)).weak fun b hb => ⟨by omega, hb.2⟩
    · have hiN' : ¬ (i : Int) < (N : Int) := by omega
      have hie : i = N := by omega
      subst hie
      rw [show (allN R x).take i = allN R x by rw [← hall, List.take_length]] at lay
      obtain ⟨l1, l2, l3, l4⟩ := lay
      rw [hall, List.take_of_length_le (by omega)] at l4
      have hzl := zip_len l2
      have h7r : ∀ r ∈ List.zipWith rowN (allN R x) us, r.length = 7 := by
        intro r hr
        obtain ⟨j, hj⟩ := List.getElem?_of_mem hr
        rw [List.getElem?_zipWith] at hj
        split at hj
        · injection hj with hj; subst hj; rfl
        · cases hj
      have hsr : SlR H' 7 (.slice (some ⟨H.next + 1, 0, none⟩) i i) (List.zipWith rowN (allN R x) us) := by
        refine ⟨_, i, by rw [hzl, hall], fun _ => ⟨H.next + 1, 0, cs, false, rfl, by omega, oH, fun j r hj => ?_⟩⟩
        have := flat_row _ 7 j r h7r hj
        rw [← l4] at this
        exact ⟨h7r r (List.mem_of_getElem? hj), by simpa using this.1, by simpa using this.2⟩
      simp -implicitDefEqProofs [t0, t3, t5, t13, t14, hiN, hiN']
      refine hK _ H' kH ⟨us, by rw [l2], ⟨⟨hsr, fun b o m cc e _ => ?_⟩, hsr, _, i, by rw [hzl, hall], .inr ⟨_, _, rfl⟩, .inl ⟨by unfold UNK; omega, by rw [hzl, hall]; exact Nat.le_refl _⟩⟩, fun j y w hy hw => ?_, .inr ⟨fun hz => ?_, .inl ?_⟩⟩
      · simp only [Value.slice.injEq, Option.some.injEq, Addr.mk.injEq] at e
        omega
      · have hjN := (List.getElem?_eq_some_iff.1 hy).1
        rw [hn7 j (by omega)] at hy
        injection hy with hy
        subst hy
        exact (hus j w hw).weak fun b hb => ⟨by omega, hb.2⟩
      · have := congrArg List.length hz
        rw [hzl, hall] at this
        simp at this
        omega
      · refine ⟨h7r, H.next + 1, 0, cs, false, by omega, by rw [hzl, hall]; unfold UNK; omega, by rw [hzl, hall], oH, ?_, ?_⟩
        · rw [List.drop_zero, hzl, hall, List.take_of_length_le (by omega)]; exact l4
        · rw [hzl, hall]; omega
end
end Go.Proofs.YtpbbjfighohokaaI
namespace Go.Proofs.YtpbbjfighohokaaI
attribute [local simp] J0 J1 J2 J3 J4 J5 J6 J7 J8 J9 Ja Jb Jc Jd Je Jf Jg Jh Ji Jj Jk Jl Jm Jn Jo Jp Jq Jr Js Jt Ju Jv Jw Jx Jy Jz JA JB JC JD JE JF JG JH JI JJ JK JL JM JN JO JP JQ JR JS stillI IOp.kind JT JU JV JW JX JY JZ Y0 Y1 Y2 Y3 Y4 Y5 Y6 Y7 Y8 Y9 Ya Yb Yc Yd Ye Yf Yg Yh Yi Yj Yk Yl Ym Yn Yo Yp Yq ial Yr Ys Yt Yu Yv Yw Yx Yy ires iresL ires1 Yz YA YB YC YD YE bin2 YF YG YH YI YJ YK YL YM YN YO YP YQ YR YS YT YU un1 shOk eqL eq1 fillL putAt IHeap.load1 IHeap.loadL IHeap.storeL YV YW YX YY YZ B0 B1 B2 B3 B4 B5 B6 B7 B8 B9 Ba Bb Bc Bd Be Bf Bg Bh Bi Bj Bk Bl Bm Bn Bo Bp
set_option linter.unusedSimpArgs false
set_option linter.unusedVariables false
open Go

/-- What a context must have for nodes. -/
structure NodeC (c : Ctx) : Prop where
  ba : HasBalA c
  bb : HasBalB c
  bd : HasBalD c
  pro : HasProp c
  pT : ProT c
  acc : HasAcc c
  ins : InsOk c
  ler : HasLearner c
  lT : LearnT c
  lN : CountT c
  rep : HasRepl c
  ty : List.Nodup [c.Ty 7, c.Ty 8, c.Ty 9, c.Ty 10, c.Ty 11, c.Ty 12]

def prepN (s a n : Int) : NoteD := ⟨1, 0, 0, s, a, n, []⟩
def Rp.lead (R : Rp) : Rp × List NoteD :=
  if (R.P.lead R.A.pa R.A.pn (nextL R.L)).2.2 ≠ 0 then (R, [])
  else ({ R with P := (R.P.lead R.A.pa R.A.pn (nextL R.L)).1, A := (R.A.promise (R.P.lead R.A.pa R.A.pn (nextL R.L)).2.1.1 (R.P.lead R.A.pa R.A.pn (nextL R.L)).2.1.2 (nextL R.L)).1 },
    allN R (prepN (nextL R.L) (R.P.lead R.A.pa R.A.pn (nextL R.L)).2.1.1 (R.P.lead R.A.pa R.A.pn (nextL R.L)).2.1.2))
def voteN (k : Int) (v : VoteD) : NoteD := ⟨k, 0, 0, 0, 0, 0, [v]⟩
def Rp.propose (R : Rp) (s : ByteArray) : Rp × List NoteD × Int :=
  if (R.P.propose s).2 ≠ 0 then (R, [], (R.P.propose s).2) else ({ R with P := (R.P.propose s).1 }, allN R (voteN 3 (R.P.proposeV s)), 0)
def Rp.isNode (R : Rp) (i : Int) : Bool := decide (0 ≤ i) && decide (i < R.n)
def askN (R : Rp) (i : Int) : NoteD := ⟨5, R.me, i, nextL R.L, 0, 0, []⟩
def Rp.ask (R : Rp) (i : Int) : List NoteD := if R.isNode i then [askN R i] else []
theorem lead_same {P : Pro} {a n fr : Int} (h : (P.lead a n fr).2.2 ≠ 0) : (P.lead a n fr).1 = P := by
  unfold Pro.lead at h ⊢
  split
  · rfl
  · split
    · rfl
    · rename_i h1 h2
      rw [if_neg h1, if_neg h2] at h
      exact absurd rfl h
theorem propose_same {P : Pro} {s : ByteArray} (h : (P.propose s).2 ≠ 0) : (P.propose s).1 = P := by
  unfold Pro.propose at h ⊢
  split
  · rfl
  · split
    · rfl
    · split
      · rfl
      · rename_i h1 h2 h3
        rw [if_neg h1, if_neg h2, if_neg h3] at h
        exact absurd rfl h
/-- One note. -/
theorem one_note {H : IHeap} {b n : Nat} {x : NoteD} {u : Value} {D : Nat → Prop} (hg : H.get b = some (.cells (rowN x u) false)) (hb : b < H.next) (hn : n ≤ b) (hu : SwD D H 4 u (x.votes.map rowV)) (hD : ∀ b, D b → n ≤ b ∧ b < H.next) :
    NtsD (fun b => n ≤ b ∧ b < H.next) H (.slice (some ⟨b, 0, none⟩) 1 1) [x] := by
  have hsr : SlR H 7 (.slice (some ⟨b, 0, none⟩) 1 1) [rowN x u] := ⟨_, 1, rfl, fun _ => ⟨b, 0, _, false, rfl, hb, hg, fun j r hj => by
    match j, hj with
    | 0, hj => simp at hj; subst hj; exact ⟨rfl, rfl, Nat.le_refl _⟩
    | j + 1, hj => simp at hj⟩⟩
  refine ⟨[u], rfl, ⟨⟨hsr, fun b' o m cc e _ => ?_⟩, hsr, _, 1, rfl, .inr ⟨_, _, rfl⟩, .inl ⟨by unfold UNK; omega, Nat.le_refl _⟩⟩, fun j y w hy hw => ?_, .inr ⟨by simp, .inl ⟨by simp [rowN], b, 0, _, false, hb, by simp [UNK], rfl, hg, by simp [rowN], by simp [rowN]⟩⟩⟩
  · simp only [Value.slice.injEq, Option.some.injEq, Addr.mk.injEq] at e
    obtain ⟨⟨rfl, -⟩, -⟩ := e
    exact ⟨hn, hb⟩
  · match j, hy, hw with
    | 0, hy, hw => simp at hy hw; subst hy; subst hw; exact hu.weak hD
    | j + 1, hy, _ => simp at hy

section
variable (c : Ctx) (hc : NodeC c) {H : IHeap} {K : Value → IHeap → Prop} {B : Nat → Prop} {p : Nat} {R : Rp}

include hc in
theorem Rnode_ok {i : Int} (h : IsR B H p R) (hK : K (.bool (R.isNode i)) H) : c.C (c.F n_replica_Replica_node) [.pointer (some ⟨p, 0, none⟩), .int .i64 i] H K := by
  refine c.enter hc.rep.replica_Replica_node rfl ?_
  obtain ⟨pa, pp, pl, Bxa, Bxp, Bxl, h, _⟩ := h
  have g := h.get
  unfold Rp.isNode at hK
  by_cases h1 : 0 ≤ i
  · simp -implicitDefEqProofs [c_replica_Replica_node, g, nilOf, h1]
    simpa [h1] using hK
  · simp -implicitDefEqProofs [c_replica_Replica_node, g, nilOf, h1]
    simpa [h1] using hK
include hc in
theorem Rnode_none {i : Int} (hK : K (.bool false) H) : c.C (c.F n_replica_Replica_node) [.pointer none, .int .i64 i] H K := by
  refine c.enter hc.rep.replica_Replica_node rfl ?_
  simp -implicitDefEqProofs [c_replica_Replica_node, nilOf]
  exact hK

include hc in
theorem Rvote_ok {k : Int} {v : VoteD} (h : IsR B H p R) (ho : R.ok) (hK : ∀ u H', H.le H' → NtsD (fun b => H.next ≤ b ∧ b < H'.next) H' u (allN R (voteN k v)) → K u H') :
    c.C (c.F n_replica_Replica_vote) [.pointer (some ⟨p, 0, none⟩), .int .i64 k, vV v] H K := by
  refine c.enter hc.rep.replica_Replica_vote rfl ?_
  obtain ⟨pa, pp, pl, Bxa, Bxp, Bxl, h, _⟩ := h
  have hq := quorumI_ne ho.1.1
  rw [ho.2.1] at hq
  obtain ⟨H1, hH1⟩ : ∃ X : IHeap, X = (H.alloc (.cells (rowV v) false)).alloc (.cells (rowV v) false) := ⟨_, rfl⟩
  have k1 : H.le H1 := by rw [hH1]; exact (H.le_alloc _).alloc _
  have n1 : H1.next = H.next + 2 := by rw [hH1]; rfl
  have b1 : H1.get (H.next + 1) = some (.cells (rowV v) false) := by rw [hH1, YV, YX, if_pos rfl]
  have hH1' : (H.alloc (.cells [.int .i64 v.slot, .int .i64 v.a, .int .i64 v.n, .string v.val] false)).alloc (.cells [.int .i64 v.slot, .int .i64 v.a, .int .i64 v.n, .string v.val] false) = H1 := by rw [hH1]; rfl
  have hsr : SlR H1 4 (.slice (some ⟨H.next + 1, 0, none⟩) 1 1) [rowV v] := ⟨_, 1, rfl, fun _ => ⟨H.next + 1, 0, _, false, rfl, by omega, b1, fun j r hj => by
    match j, hj with
    | 0, hj => simp at hj; subst hj; exact ⟨rfl, rfl, Nat.le_refl _⟩
    | j + 1, hj => simp at hj⟩⟩
  have hsw : SwD (fun b => H.next ≤ b ∧ b < H1.next) H1 4 (.slice (some ⟨H.next + 1, 0, none⟩) 1 1) [rowV v] := by
    refine ⟨⟨hsr, fun b' o m cc e _ => ?_⟩, hsr, _, 1, rfl, .inr ⟨_, _, rfl⟩, .inl ⟨by unfold UNK; omega, Nat.le_refl _⟩⟩
    simp only [Value.slice.injEq, Option.some.injEq, Addr.mk.injEq] at e
    omega
  simp -implicitDefEqProofs [c_replica_Replica_vote, vV, hH1']
  refine call_of (Rall_ok c hc.rep (R := R) (x := voteN k v) (p := p) (by have := h.lt; omega) ⟨_, _, _, (k1.get p h.lt).trans h.get⟩ hq.1 hq.2.1 hsw (by simp [voteN]) fun w H2 k2 nt => ?_)
  simp -implicitDefEqProofs []
  exact hK w H2 (k1.trans k2) (nt.weak fun b hb => ⟨by omega, hb.2⟩)

include hc in
theorem RPropose_ok {s : ByteArray} (h : IsR B H p R) (ho : R.ok) (hK : ∀ u H', Fr B H H' → IsR B H' p (R.propose s).1 → NtsD (fun b => H.next ≤ b ∧ b < H'.next) H' u (R.propose s).2.1 → K (.tuple #[u, .int .i64 (R.propose s).2.2]) H') :
    c.C (c.F n_replica_Replica_Propose) [.pointer (some ⟨p, 0, none⟩), .string s] H K := by
  refine c.enter hc.rep.replica_Replica_Propose rfl ?_
  obtain ⟨pa, pp, pl, Bxa, Bxp, Bxl, h, hB⟩ := h
  have g := h.get
  simp -implicitDefEqProofs [c_replica_Replica_Propose, nilOf, g]
  refine call_of (PPropose_ok c hc.pro h.q ho.1 fun H1 f1 i1 => ?_)
  obtain ⟨h1, f1', _⟩ := h.pro f1 (fun b hb => .inl hb) i1
  obtain ⟨v, hv⟩ : ∃ v, v = R.P.proposeV s := ⟨_, rfl⟩
  obtain ⟨H2, hH2⟩ : ∃ X : IHeap, X = (H1.alloc (.cells [.int .i64 0, .int .i64 0, .int .i64 0, .string ⟨#[]⟩] false)).set H1.next (.cells [.int .i64 v.slot, .int .i64 v.a, .int .i64 v.n, .string v.val] false) := ⟨_, rfl⟩
  have k2 : H1.le H2 := by rw [hH2]; exact (H1.le_alloc _).set (Nat.le_refl _) _
  have b2 : H2.get H1.next = some (.cells [.int .i64 v.slot, .int .i64 v.a, .int .i64 v.n, .string v.val] false) := by rw [hH2, YW, if_pos rfl]
  rw [← hv]
  by_cases he : (R.P.propose s).2 = 0
  · have hp : R.propose s = ({ R with P := (R.P.propose s).1 }, allN R (voteN 3 v), 0) := by unfold Rp.propose; rw [if_neg (by simpa using he), hv]
    rw [hp] at hK
    have ho' : Rp.ok { R with P := (R.P.propose s).1 } := by
      refine ⟨ho.1.propose s, ?_, ?_, ho.2.2.2.1, ho.2.2.2.2⟩
      · have : (R.P.propose s).1.n = R.P.n := by unfold Pro.propose; (repeat' split) <;> rfl
        exact this.trans ho.2.1
      · have : (R.P.propose s).1.me = R.P.me := by unfold Pro.propose; (repeat' split) <;> rfl
        exact this.trans ho.2.2.1
    simp -implicitDefEqProofs [vV, he, ← hH2, b2]
    refine call_of (Rvote_ok c hc (R := { R with P := (R.P.propose s).1 }) (B := B) (k := 3) (v := v) ⟨pa, pp, pl, Bxa, Bxp, Bxl, h1.le k2, hB⟩ ho' fun u H3 k3 nt => ?_)
    simp -implicitDefEqProofs []
    refine hK u H3 ((f1'.iff hB).trans_le (k2.trans k3)) ⟨pa, pp, pl, Bxa, Bxp, Bxl, h1.le (k2.trans k3), hB⟩ (nt.weak fun b hb => ⟨?_, hb.2⟩)
    have := f1.next; have := k2.next; omega
  · have hp : R.propose s = (R, [], (R.P.propose s).2) := by unfold Rp.propose; rw [if_pos he]
    rw [hp] at hK
    simp -implicitDefEqProofs [vV, he, ← hH2]
    rw [propose_same he] at h1
    exact hK _ H2 ((f1'.iff hB).trans_le k2) ⟨pa, pp, pl, Bxa, Bxp, Bxl, h1.le k2, hB⟩ (NtsD.nil _ _)

include hc in
theorem RAsk_ok {i : Int} (h : IsR B H p R) (hK : ∀ u H', H.le H' → NtsD (fun b => H.next ≤ b ∧ b < H'.next) H' u (R.ask i) → K u H') :
    c.C (c.F n_replica_Replica_Ask) [.pointer (some ⟨p, 0, none⟩), .int .i64 i] H K := by
  refine c.enter hc.rep.replica_Replica_Ask rfl ?_
  simp -implicitDefEqProofs [c_replica_Replica_Ask]
  refine call_of (Rnode_ok c hc h ?_)
  unfold Rp.ask at hK
  cases hn : R.isNode i with
  | false =>
    rw [hn] at hK
    simp -implicitDefEqProofs []
    exact hK _ H (IHeap.le_refl _) (NtsD.nil _ _)
  | true =>
    rw [hn, if_pos rfl] at hK
    obtain ⟨pa, pp, pl, Bxa, Bxp, Bxl, h, hB⟩ := h
    have g := h.get
    simp -implicitDefEqProofs [g]
    refine dcall_of c.mono (LNextB c hc.ler hc.lT h.l ?_)
    obtain ⟨H1, hH1⟩ : ∃ X : IHeap, X = H.alloc (.cells (rowN (askN R i) (.slice none 0 0)) false) := ⟨_, rfl⟩
    have hH1' : H.alloc (.cells [.int .i64 5, .int .i64 R.me, .int .i64 i, .int .i64 (nextL R.L), .int .i64 0, .int .i64 0, .slice none 0 0] false) = H1 := by rw [hH1]; rfl
    have k1 : H.le H1 := by rw [hH1]; exact H.le_alloc _
    simp -implicitDefEqProofs [g, hH1']
    exact hK _ H1 k1 (one_note (D := fun _ => False) (x := askN R i) (by rw [hH1, YV, if_pos rfl]) (by rw [hH1, YX]; omega) (Nat.le_refl _) (SwD.nil _ _ _) fun _ h => h.elim)

include hc in
theorem RLog_ok (h : IsR B H p R) (hK : ∀ v H', H.le H' → Grow H' H.next 1 v ((logL R.L 0).map fun x => [.string x]) → K v H') : c.C (c.F n_replica_Replica_Log) [.pointer (some ⟨p, 0, none⟩)] H K := by
  refine c.enter hc.rep.replica_Replica_Log rfl ?_
  obtain ⟨pa, pp, pl, Bxa, Bxp, Bxl, h, hB⟩ := h
  have g := h.get
  simp -implicitDefEqProofs [c_replica_Replica_Log, nilOf, g]
  refine call_of (LLogB c hc.ler hc.lT h.l fun v H' k gr => ?_)
  simp -implicitDefEqProofs []
  exact hK v H' k gr
include hc in
theorem RLeads_ok (h : IsR B H p R) (hK : K (.bool (decide (R.P.does = 2))) H) : c.C (c.F n_replica_Replica_Leads) [.pointer (some ⟨p, 0, none⟩)] H K := by
  refine c.enter hc.rep.replica_Replica_Leads rfl ?_
  obtain ⟨pa, pp, pl, Bxa, Bxp, Bxl, h, hB⟩ := h
  have g := h.get
  simp -implicitDefEqProofs [c_replica_Replica_Leads, nilOf, g]
  refine call_of (PLeads_ok c hc.pro h.q ?_)
  simp -implicitDefEqProofs []
  exact hK
end
end Go.Proofs.YtpbbjfighohokaaI
namespace Go.Proofs.YtpbbjfighohokaaI
attribute [local simp] J0 J1 J2 J3 J4 J5 J6 J7 J8 J9 Ja Jb Jc Jd Je Jf Jg Jh Ji Jj Jk Jl Jm Jn Jo Jp Jq Jr Js Jt Ju Jv Jw Jx Jy Jz JA JB JC JD JE JF JG JH JI JJ JK JL JM JN JO JP JQ JR JS stillI IOp.kind JT JU JV JW JX JY JZ Y0 Y1 Y2 Y3 Y4 Y5 Y6 Y7 Y8 Y9 Ya Yb Yc Yd Ye Yf Yg Yh Yi Yj Yk Yl Ym Yn Yo Yp Yq ial Yr Ys Yt Yu Yv Yw Yx Yy ires iresL ires1 Yz YA YB YC YD YE bin2 YF YG YH YI YJ YK YL YM YN YO YP YQ YR YS YT YU un1 shOk eqL eq1 fillL putAt IHeap.load1 IHeap.loadL IHeap.storeL YV YW YX YY YZ B0 B1 B2 B3 B4 B5 B6 B7 B8 B9 Ba Bb Bc Bd Be Bf Bg Bh Bi Bj Bk Bl Bm Bn Bo Bp
set_option linter.unusedSimpArgs false
set_option linter.unusedVariables false
open Go

theorem Fr.one (H : IHeap) (i : Nat) (o : IObj) : Fr (fun b => b = i) H (H.set i o) := (Fr.refl (fun b => b = i) H).set (.inl rfl) o
section
variable (c : Ctx) (hc : NodeC c) {H : IHeap} {K : Value → IHeap → Prop} {B : Nat → Prop} {p : Nat} {R : Rp}

/-- What came of a call: the blocks, and the notes in others. -/
def Said (B : Nat → Prop) (H : IHeap) (p : Nat) (R' : Rp) (l : List NoteD) (u : Value) (H' : IHeap) : Prop :=
  ∃ B', Fr B H H' ∧ (∀ b, B' b → B b ∨ H.next ≤ b) ∧ IsR B' H' p R' ∧ NtsD (fun b => H.next ≤ b ∧ b < H'.next ∧ ¬ B' b) H' u l

include hc in
theorem RLead_ok (h : IsR B H p R) (ho : R.ok) (hK : ∀ u H', Said B H p R.lead.1 R.lead.2 u H' → K u H') :
    c.C (c.F n_replica_Replica_Lead) [.pointer (some ⟨p, 0, none⟩)] H K := by
  refine c.enter hc.rep.replica_Replica_Lead rfl ?_
  obtain ⟨pa, pp, pl, Bxa, Bxp, Bxl, h, hB⟩ := h
  have g := h.get
  have hlt := h.lt
  have hq := quorumI_ne ho.1.1
  rw [ho.2.1] at hq
  have e1 : ¬ p = H.next := by omega
  simp -implicitDefEqProofs [c_replica_Replica_Lead, nilOf, g]
  refine call_of (LNextB c hc.ler hc.lT h.l ?_)
  obtain ⟨nx, hnx⟩ : ∃ nx, nx = nextL R.L := ⟨_, rfl⟩
  rw [← hnx]
  obtain ⟨H1, hH1⟩ : ∃ X : IHeap, X = H.alloc (.cells [.int .i64 0, .int .i64 0] false) := ⟨_, rfl⟩
  have k1 : H.le H1 := by rw [hH1]; exact H.le_alloc _
  have n1 : H1.next = H.next + 1 := by rw [hH1]; rfl
  have b1 : H1.get H.next = some (.cells [.int .i64 0, .int .i64 0] false) := by rw [hH1, YV, if_pos rfl]
  simp -implicitDefEqProofs [g, ← hH1]
  have hr1 := h.le k1
  have g1 := (k1.get p hlt).trans g
  refine dcall_of c.mono (APromisedB c hc.acc hr1.a fun H2 k2 => ?_)
  have hr2 := hr1.le k2
  have g2 := (k2.get p (by omega)).trans g1
  simp -implicitDefEqProofs [g2]
  refine dcall_of c.mono (PLead_ok c hc.ba hc.bd hc.pro hr2.q fun H3 Bx3 f3 s3 i3 => ?_)
  obtain ⟨hr3, f3', u3⟩ := hr2.pro f3 s3 i3
  obtain ⟨x, hx⟩ : ∃ x, x = R.P.lead R.A.pa R.A.pn nx := ⟨_, rfl⟩
  rw [← hx] at hr3 ⊢
  have n2 := k2.next
  have n3 := f3.next
  have nu : ¬ uni p Bxa Bxp Bxl H.next := fun hh => by have := h.uni_lt _ hh; omega
  have b3 := (f3'.get H.next (by omega) nu).trans ((k2.get H.next (by omega)).trans b1)
  have F3 : Fr (uni p Bxa Bxp Bxl) H H3 := (k1.trans k2).trans_fr f3'
  obtain ⟨H4, hH4⟩ : ∃ X : IHeap, X = H3.set H.next (.cells [.int .i64 x.2.1.1, .int .i64 x.2.1.2] false) := ⟨_, rfl⟩
  have f4 : Fr (fun b => b = H.next) H3 H4 := by rw [hH4]; exact Fr.one _ _ _
  have F4 : Fr (uni p Bxa Bxp Bxl) H H4 := by rw [hH4]; exact F3.set (.inr (Nat.le_refl _)) _
  have b4 : H4.get H.next = some (.cells [.int .i64 x.2.1.1, .int .i64 x.2.1.2] false) := by rw [hH4, YW, if_pos rfl]
  have hs3 : ∀ b, uni p Bxa Bx3 Bxl b → uni p Bxa Bxp Bxl b ∨ H.next ≤ b := fun b hb => (u3 b hb).imp id fun z => by omega
  have nu3 : ¬ uni p Bxa Bx3 Bxl H.next := by
    intro hh
    rcases u3 _ hh with z | z
    · exact nu z
    · omega
  have hr4 := hr3.fr f4 (fun b hb e => nu3 (e ▸ hb))
  have n4 : H4.next = H3.next := by rw [hH4]; rfl
  simp -implicitDefEqProofs [vB, b3, ← hH4]
  by_cases he : x.2.2 = 0
  · have hl : R.lead = ({ R with P := x.1, A := (R.A.promise x.2.1.1 x.2.1.2 nx).1 }, allN R (prepN nx x.2.1.1 x.2.1.2)) := by
      unfold Rp.lead; rw [← hnx, ← hx, if_neg (by simpa using he)]
    rw [hl] at hK
    have g4 := hr4.get
    simp only at g4
    have e4 : ¬ p = H.next := e1
    simp -implicitDefEqProofs [he, g4, b4]
    refine dcall_of c.mono (APromiseB c hc.acc hc.ba (A := R.A) (a := x.2.1.1) (n := x.2.1.2) hr4.a (Nat.le_trans (acc_len ho.2.2.2.2 h.a.sorted) (by omega)) fun v5 H5 f5 a5 w5 => ?_)
    obtain ⟨hr5, f5', u5⟩ := hr4.acc f5 (fun b hb => .inl hb) a5
    have n5 := f5.next
    have b5 := (f5'.get H.next (by omega) nu3).trans b4
    simp -implicitDefEqProofs [b5]
    refine call_of (Rall_ok c hc.rep (R := R) (x := prepN nx x.2.1.1 x.2.1.2) (D := fun _ => False) (by have := hr5.lt; omega) ⟨_, _, _, hr5.get⟩ hq.1 hq.2.1 (SwD.nil _ _ _) (by simp [prepN]) fun v6 H6 k6 nt => ?_)
    simp -implicitDefEqProofs []
    refine hK v6 H6 ⟨uni p Bxa Bx3 Bxl, ?_, fun b hb => ?_, ⟨pa, pp, pl, Bxa, Bx3, Bxl, hr5.le k6, fun b => Iff.rfl⟩, nt.weak fun b hb => ⟨by omega, hb.2, fun hh => by have := hr5.uni_lt b hh; omega⟩⟩
    · exact ((F4.trans f5' hs3).iff hB).trans_le k6
    · rcases u3 b hb with z | z
      · exact .inl ((hB b).2 z)
      · exact .inr (by omega)
  · have hl : R.lead = (R, []) := by unfold Rp.lead; rw [← hnx, ← hx, if_pos he]
    rw [hl] at hK
    simp -implicitDefEqProofs [he]
    refine hK _ H4 ⟨uni p Bxa Bx3 Bxl, F4.iff hB, fun b hb => ?_, ⟨pa, pp, pl, Bxa, Bx3, Bxl, ?_, fun b => Iff.rfl⟩, NtsD.nil _ _⟩
    · exact (hs3 b hb).imp (hB b).2 id
    · rw [hx] at he
      rw [hx, lead_same he] at hr4
      exact hr4

def Rp.new (n me : Int) : Rp := ⟨n, me, ⟨0, 0, 0, []⟩, Pro.new n me, ⟨n, 0, fun _ => none, fun _ => none⟩⟩
theorem Rp.new_ok {n me : Int} (h1 : quorumI n ≠ 0) (h2 : 0 ≤ me) (h3 : me < n) : (Rp.new n me).ok :=
  ⟨ok_new h1 h2 h3, rfl, rfl, rfl, Int.le_refl _, by show (0 : Int) ≤ 1024; omega, by show validB 0 0 = true; decide, fun _ h => by cases h⟩
include hc in
theorem RNew_ok {n me : Int} (h0 : (quorumI n = 0 ∨ me < 0 ∨ n ≤ me) → ∀ H', H.le H' → K (.pointer none) H') (hK : quorumI n ≠ 0 → 0 ≤ me → me < n → ∀ p B H', H.le H' → (∀ b, B b → H.next ≤ b) → IsR B H' p (Rp.new n me) → K (.pointer (some ⟨p, 0, none⟩)) H') :
    c.C (c.F n_replica_New) [.int .i64 n, .int .i64 me] H K := by
  refine c.enter hc.rep.replica_New rfl ?_
  simp -implicitDefEqProofs [c_replica_New]
  refine call_of (ANewB c hc.acc fun pa Bxa H1 k1 ba1 a1 => ?_)
  have n1 := k1.next
  simp -implicitDefEqProofs []
  refine call_of (PNew_ok c hc.bb hc.pro (fun hbad => ?_) fun q0 q1 q2 pp Bxp H2 k2 bp2 p2 => ?_)
  · simp -implicitDefEqProofs []
    refine call_of (LNewB c hc.ler hc.bb (fun _ => ?_) fun _ pl Bxl H2 k2 _ _ => ?_)
    · simp -implicitDefEqProofs [nilOf]
      exact h0 hbad _ (k1.alloc _)
    · simp -implicitDefEqProofs [nilOf]
      exact h0 hbad _ ((k1.trans k2).alloc _)
  · have n2 := k2.next
    simp -implicitDefEqProofs []
    refine call_of (LNewB c hc.ler hc.bb (fun hz => absurd hz q0) fun _ pl Bxl H3 k3 bl3 l3 => ?_)
    have n3 := k3.next
    simp -implicitDefEqProofs [nilOf]
    have kA := H3.le_alloc (.cells [.int .i64 n, .int .i64 me, .pointer (some ⟨pa, 0, none⟩), .pointer (some ⟨pp, 0, none⟩), .pointer (some ⟨pl, 0, none⟩)] false)
    have La := fun b hb => (a1.le (k2.trans k3)).lt b hb
    have Lp := fun b hb => (p2.le k3).lt b hb
    have Ll := l3.lt
    refine hK q0 q1 q2 H3.next (uni H3.next Bxa Bxp Bxl) _ (((k1.trans k2).trans k3).trans kA) (fun b hb => ?_) ⟨pa, pp, pl, Bxa, Bxp, Bxl, ⟨by rw [YX]; omega, by rw [YV, if_pos rfl]; rfl, a1.le ((k2.trans k3).trans kA), p2.le (k3.trans kA), l3.le kA, fun hh => by have := La _ hh; omega, fun hh => by have := Lp _ hh; omega, fun hh => by have := Ll _ hh; omega, fun b x y => by have := a1.lt b x; have := bp2 b y; omega, fun b x y => by have := a1.lt b x; have := bl3 b y; omega, fun b x y => by have := p2.lt b x; have := bl3 b y; omega⟩, fun b => Iff.rfl⟩
    rcases hb with rfl | hb | hb | hb
    · omega
    · exact ba1 b hb
    · have := bp2 b hb; omega
    · have := bl3 b hb; omega
end
end Go.Proofs.YtpbbjfighohokaaI
