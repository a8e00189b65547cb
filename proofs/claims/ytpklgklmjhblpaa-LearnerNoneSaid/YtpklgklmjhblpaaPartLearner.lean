/- PRINTED by gen.py (this session's own): the intermediate form of some functions, and a context's having them. -/
import Derived.Test.YtpklgklmjhblpaaPartBalC
namespace Go.Proofs.YtpklgklmjhblpaaI
set_option linter.unusedSimpArgs false
set_option linter.unusedVariables false
open Go

/-- hurdle/learner.New -/
abbrev n_learner_New : Nat := 81
/-- (*hurdle/learner.Learner).Told -/
abbrev n_learner_Learner_Told : Nat := 82
/-- (*hurdle/learner.Learner).Hear -/
abbrev n_learner_Learner_Hear : Nat := 83
/-- (*hurdle/learner.Learner).Tell -/
abbrev n_learner_Learner_Tell : Nat := 84
/-- (*hurdle/learner.Learner).Trim -/
abbrev n_learner_Learner_Trim : Nat := 85
/-- (*hurdle/learner.Learner).Base -/
abbrev n_learner_Learner_Base : Nat := 86
/-- (*hurdle/learner.Learner).Log -/
abbrev n_learner_Learner_Log : Nat := 87
/-- (*hurdle/learner.Learner).Next -/
abbrev n_learner_Learner_Next : Nat := 88
/-- (*hurdle/learner.Learner).may -/
abbrev n_learner_Learner_may : Nat := 89
/-- (*hurdle/learner.Learner).tally -/
abbrev n_learner_Learner_tally : Nat := 90
/-- (*hurdle/learner.Learner).forget -/
abbrev n_learner_Learner_forget : Nat := 91
/-- hurdle/learner.New -/
def c_learner_New (F : Nat → FuncId) (Ty : Nat → TypeId) : IFunc := ⟨11, [.tmp 2],
 .seq (.ops [⟨some 2, .move (.const (.pointer none)), none⟩])
  (.seq (.seq (.ops [⟨some 3, .move (.tmp 0), none⟩,
      ⟨some 4, .call (F 7) [.tmp 3], none⟩,
      ⟨some 5, .bin .eql (.tmp 4) (.const (.int .i64 0)), none⟩])
    (.cond (.tmp 5)
     (.seq (.ops [⟨some 2, .move (.const (.pointer none)), none⟩])
      (.ret))
     (.skip)))
   (.seq (.ops [⟨some 6, .move (.tmp 0), none⟩,
      ⟨some 7, .mkMap, none⟩,
      ⟨some 8, .mkMap, none⟩,
      ⟨some 9, .build [.int .i64 0, .int .i64 0, .map none, .map none] [((0, 1), .tmp 6), ((2, 1), .tmp 7), ((3, 1), .tmp 8)], none⟩,
      ⟨some 10, .box (.tmp 9), none⟩,
      ⟨some 2, .move (.tmp 10), none⟩])
    (.ret)))⟩
/-- (*hurdle/learner.Learner).Told -/
def c_learner_Learner_Told (F : Nat → FuncId) (Ty : Nat → TypeId) : IFunc := ⟨21, [.tmp 4, .tmp 5],
 .seq (.ops [⟨some 4, .move (.const (.string ⟨#[]⟩)), none⟩,
    ⟨some 5, .move (.const (.bool false)), none⟩])
  (.seq (.seq (.ops [⟨some 8, .move (.tmp 0), none⟩,
      ⟨some 9, .eqNil 0 false (.tmp 8), none⟩])
    (.cond (.tmp 9)
     (.seq (.ops [⟨some 4, .move (.const (.string ⟨#[]⟩)), none⟩,
        ⟨some 5, .move (.const (.bool false)), none⟩])
      (.ret))
     (.skip)))
   (.seq (.ops [⟨some 11, .move (.tmp 0), none⟩,
      ⟨some 12, .nilCheck (.tmp 11), none⟩,
      ⟨some 13, .fieldAddr 2 (.tmp 12), none⟩,
      ⟨some 14, .load1 (.tmp 13), none⟩,
      ⟨some 15, .move (.tmp 1), none⟩,
      ⟨some 16, .lookup (Ty 2) (.string ⟨#[]⟩) true (.tmp 14) (.tmp 15), none⟩,
      ⟨some 10, .move (.tmp 16), none⟩,
      ⟨some 17, .extract (.tmp 10) 0, none⟩,
      ⟨some 18, .extract (.tmp 10) 1, none⟩,
      ⟨some 6, .move (.tmp 17), none⟩,
      ⟨some 7, .move (.tmp 18), none⟩])
    (.seq (.ops [⟨some 19, .move (.tmp 6), none⟩,
       ⟨some 20, .move (.tmp 7), none⟩,
       ⟨some 4, .move (.tmp 19), none⟩,
       ⟨some 5, .move (.tmp 20), none⟩])
     (.ret))))⟩
/-- (*hurdle/learner.Learner).Hear -/
def c_learner_Learner_Hear (F : Nat → FuncId) (Ty : Nat → TypeId) : IFunc := ⟨80, [.tmp 6],
 .seq (.ops [⟨some 5, .box (.tmp 2), none⟩,
    ⟨some 6, .move (.const (.bool false)), none⟩])
  (.seq (.seq (.ops [⟨some 10, .move (.tmp 0), none⟩,
      ⟨some 11, .fieldAddr 0 (.tmp 5), none⟩,
      ⟨some 12, .load1 (.tmp 11), none⟩,
      ⟨some 13, .fieldAddr 3 (.tmp 5), none⟩,
      ⟨some 14, .load1 (.tmp 13), none⟩,
      ⟨some 15, .call (F 89) [.tmp 10, .tmp 12, .tmp 14], none⟩,
      ⟨some 16, .un .not (.tmp 15), none⟩,
      ⟨some 17, .move (.tmp 16), none⟩,
      ⟨some 18, .move (.tmp 1), some (17, false)⟩,
      ⟨some 19, .bin .lss (.tmp 18) (.const (.int .i64 0)), some (17, false)⟩,
      ⟨some 20, .pick (.tmp 17) (.const (.bool true)) (.tmp 19), none⟩,
      ⟨some 21, .move (.tmp 20), none⟩,
      ⟨some 22, .move (.tmp 1), some (21, false)⟩,
      ⟨some 23, .move (.tmp 0), some (21, false)⟩,
      ⟨some 24, .nilCheck (.tmp 23), some (21, false)⟩,
      ⟨some 25, .fieldAddr 0 (.tmp 24), some (21, false)⟩,
      ⟨some 26, .load1 (.tmp 25), some (21, false)⟩,
      ⟨some 27, .bin .geq (.tmp 22) (.tmp 26), some (21, false)⟩,
      ⟨some 28, .pick (.tmp 21) (.const (.bool true)) (.tmp 27), none⟩,
      ⟨some 29, .move (.tmp 28), none⟩,
      ⟨some 30, .fieldAddr 1 (.tmp 5), some (29, false)⟩,
      ⟨some 31, .loadN 2 (.tmp 30), some (29, false)⟩,
      ⟨some 32, .call (F 5) [.tmp 31], some (29, false)⟩,
      ⟨some 33, .un .not (.tmp 32), some (29, false)⟩,
      ⟨some 34, .pick (.tmp 29) (.const (.bool true)) (.tmp 33), none⟩])
    (.cond (.tmp 34)
     (.seq (.ops [⟨some 6, .move (.const (.bool false)), none⟩])
      (.ret))
     (.skip)))
   (.seq (.ops [⟨some 35, .fieldAddr 0 (.tmp 5), none⟩,
      ⟨some 36, .load1 (.tmp 35), none⟩,
      ⟨some 37, .move (.tmp 1), none⟩,
      ⟨some 38, .build [.int .i64 0, .int .i64 0] [((0, 1), .tmp 36), ((1, 1), .tmp 37)], none⟩,
      ⟨some 7, .alloc [.int .i64 0, .int .i64 0], none⟩,
      ⟨none, .store 2 (.tmp 7) (.tmp 38), none⟩])
    (.seq (.seq (.draw [(⟨some 40, .move (.tmp 0), none⟩, []),
        (⟨some 41, .nilCheck (.tmp 40), none⟩, []),
        (⟨some 42, .fieldAddr 3 (.tmp 41), none⟩, []),
        (⟨some 43, .load1 (.tmp 42), none⟩, []),
        (⟨some 44, .loadN 2 (.tmp 7), none⟩, []),
        (⟨some 45, .lookup (Ty 3) (.agg #[.int .i64 0, .int .i64 0, .int .i64 0, .string ⟨#[]⟩]) true (.tmp 43) (.tmp 44), none⟩, []),
        (⟨some 39, .move (.tmp 45), none⟩, []),
        (⟨some 46, .extract (.tmp 39) 0, none⟩, []),
        (⟨some 47, .extract (.tmp 39) 1, none⟩, []),
        (⟨some 8, .alloc [.int .i64 0, .int .i64 0, .int .i64 0, .string ⟨#[]⟩], none⟩, []),
        (⟨none, .store 4 (.tmp 8) (.tmp 46), none⟩, []),
        (⟨some 9, .move (.tmp 47), none⟩, [])])
      (.seq (.ops [⟨some 48, .move (.tmp 9), none⟩,
         ⟨some 49, .move (.tmp 48), none⟩,
         ⟨some 50, .fieldAddr 1 (.tmp 8), some (49, true)⟩,
         ⟨some 51, .loadN 2 (.tmp 50), some (49, true)⟩,
         ⟨some 52, .fieldAddr 1 (.tmp 5), some (49, true)⟩,
         ⟨some 53, .loadN 2 (.tmp 52), some (49, true)⟩,
         ⟨some 54, .call (F 4) [.tmp 51, .tmp 53], some (49, true)⟩,
         ⟨some 55, .bin .geq (.tmp 54) (.const (.int .i64 0)), some (49, true)⟩,
         ⟨some 56, .pick (.tmp 49) (.tmp 55) (.const (.bool false)), none⟩])
       (.cond (.tmp 56)
        (.seq (.ops [⟨some 6, .move (.const (.bool false)), none⟩])
         (.ret))
        (.skip))))
     (.seq (.draw [(⟨some 57, .move (.tmp 0), none⟩, []),
        (⟨some 58, .nilCheck (.tmp 57), none⟩, []),
        (⟨some 59, .fieldAddr 3 (.tmp 58), none⟩, []),
        (⟨some 60, .load1 (.tmp 59), none⟩, []),
        (⟨some 61, .loadN 2 (.tmp 7), none⟩, []),
        (⟨some 62, .loadN 4 (.tmp 5), none⟩, []),
        (⟨none, .mapUpdate (Ty 3) (.tmp 60) (.tmp 61) (.tmp 62), none⟩, [])])
      (.seq (.seq (.draw [(⟨some 63, .move (.tmp 0), none⟩, []),
          (⟨some 64, .loadN 4 (.tmp 5), none⟩, []),
          (⟨some 68, .move (.tmp 0), none⟩, []),
          (⟨some 69, .nilCheck (.tmp 68), none⟩, []),
          (⟨some 70, .fieldAddr 0 (.tmp 69), none⟩, []),
          (⟨some 71, .load1 (.tmp 70), none⟩, []),
          (⟨some 65, .call (F 90) [.tmp 63, .tmp 64], none⟩, [⟨some 71, .load1 (.tmp 70), none⟩]),
          (⟨some 66, .raw (.call ⟨.builtin .real, #[.tmp 65], #[(Ty 4)]⟩) (Ty 5), none⟩, []),
          (⟨some 67, .raw (.convert (Ty 5) (Ty 2) (.tmp 66)) (Ty 2), none⟩, []),
          (⟨some 72, .call (F 7) [.tmp 71], none⟩, []),
          (⟨some 73, .bin .lss (.tmp 67) (.tmp 72), none⟩, [])])
        (.cond (.tmp 73)
         (.seq (.ops [⟨some 6, .move (.const (.bool false)), none⟩])
          (.ret))
         (.skip)))
       (.seq (.ops [⟨some 74, .move (.tmp 0), none⟩,
          ⟨some 75, .fieldAddr 0 (.tmp 5), none⟩,
          ⟨some 76, .load1 (.tmp 75), none⟩,
          ⟨some 77, .fieldAddr 3 (.tmp 5), none⟩,
          ⟨some 78, .load1 (.tmp 77), none⟩,
          ⟨some 79, .call (F 84) [.tmp 74, .tmp 76, .tmp 78], none⟩,
          ⟨some 6, .move (.tmp 79), none⟩])
        (.ret)))))))⟩
/-- (*hurdle/learner.Learner).Tell -/
def c_learner_Learner_Tell (F : Nat → FuncId) (Ty : Nat → TypeId) : IFunc := ⟨21, [.tmp 6],
 .seq (.ops [⟨some 6, .move (.const (.bool false)), none⟩])
  (.seq (.seq (.ops [⟨some 7, .move (.tmp 0), none⟩,
      ⟨some 8, .move (.tmp 1), none⟩,
      ⟨some 9, .move (.tmp 2), none⟩,
      ⟨some 10, .call (F 89) [.tmp 7, .tmp 8, .tmp 9], none⟩,
      ⟨some 11, .un .not (.tmp 10), none⟩])
    (.cond (.tmp 11)
     (.seq (.ops [⟨some 6, .move (.const (.bool false)), none⟩])
      (.ret))
     (.skip)))
   (.seq (.ops [⟨some 12, .move (.tmp 0), none⟩,
      ⟨some 13, .nilCheck (.tmp 12), none⟩,
      ⟨some 14, .fieldAddr 2 (.tmp 13), none⟩,
      ⟨some 15, .load1 (.tmp 14), none⟩,
      ⟨some 16, .move (.tmp 1), none⟩,
      ⟨some 17, .move (.tmp 2), none⟩,
      ⟨none, .mapUpdate (Ty 2) (.tmp 15) (.tmp 16) (.tmp 17), none⟩])
    (.seq (.ops [⟨some 18, .move (.tmp 0), none⟩,
       ⟨some 19, .move (.tmp 1), none⟩,
       ⟨some 20, .call (F 91) [.tmp 18, .tmp 19], none⟩])
     (.seq (.ops [⟨some 6, .move (.const (.bool true)), none⟩])
      (.ret)))))⟩
/-- (*hurdle/learner.Learner).Trim -/
def c_learner_Learner_Trim (F : Nat → FuncId) (Ty : Nat → TypeId) : IFunc := ⟨36, [.tmp 4],
 .seq (.ops [⟨some 4, .move (.const (.int .i64 0)), none⟩])
  (.seq (.seq (.ops [⟨some 6, .move (.tmp 0), none⟩,
      ⟨some 7, .eqNil 0 false (.tmp 6), none⟩])
    (.cond (.tmp 7)
     (.seq (.ops [⟨some 4, .move (.const (.int .i64 0)), none⟩])
      (.ret))
     (.skip)))
   (.seq (.ops [⟨some 8, .move (.tmp 1), none⟩,
      ⟨some 9, .move (.tmp 0), none⟩,
      ⟨some 10, .call (F 88) [.tmp 9], none⟩,
      ⟨some 11, .mxn false (.tmp 8) (.tmp 10), none⟩,
      ⟨some 1, .move (.tmp 11), none⟩])
    (.seq (.ops [⟨some 5, .move (.const (.int .i64 0)), none⟩])
     (.seq (.block 0 (.loop (.seq (.seq (.ops [⟨some 12, .move (.tmp 0), none⟩,
            ⟨some 13, .nilCheck (.tmp 12), none⟩,
            ⟨some 14, .fieldAddr 1 (.tmp 13), none⟩,
            ⟨some 15, .load1 (.tmp 14), none⟩,
            ⟨some 16, .move (.tmp 1), none⟩,
            ⟨some 17, .bin .lss (.tmp 15) (.tmp 16), none⟩])
          (.cond (.tmp 17)
           (.skip)
           (.exit 0)))
         (.seq (.block 1 (.seq (.draw [(⟨some 20, .move (.tmp 0), none⟩, []),
              (⟨some 21, .nilCheck (.tmp 20), none⟩, []),
              (⟨some 22, .fieldAddr 2 (.tmp 21), none⟩, []),
              (⟨some 23, .load1 (.tmp 22), none⟩, []),
              (⟨some 24, .move (.tmp 0), none⟩, []),
              (⟨some 25, .nilCheck (.tmp 24), none⟩, []),
              (⟨some 26, .fieldAddr 1 (.tmp 25), none⟩, []),
              (⟨some 27, .load1 (.tmp 26), none⟩, []),
              (⟨none, .delete (Ty 2) (.tmp 23) (.tmp 27), none⟩, [])])
            (.ops [⟨some 28, .move (.tmp 0), none⟩,
              ⟨some 29, .nilCheck (.tmp 28), none⟩,
              ⟨some 30, .fieldAddr 1 (.tmp 29), none⟩,
              ⟨some 31, .load1 (.tmp 30), none⟩,
              ⟨some 32, .bin .add (.tmp 31) (.const (.int .i64 1)), none⟩,
              ⟨some 33, .nilCheck (.tmp 28), none⟩,
              ⟨some 34, .fieldAddr 1 (.tmp 33), none⟩,
              ⟨none, .store 1 (.tmp 34) (.tmp 32), none⟩])))
          (.ops [⟨some 18, .move (.tmp 5), none⟩,
            ⟨some 19, .bin .add (.tmp 18) (.const (.int .i64 1)), none⟩,
            ⟨some 5, .move (.tmp 19), none⟩])))))
      (.seq (.ops [⟨some 35, .move (.tmp 5), none⟩,
         ⟨some 4, .move (.tmp 35), none⟩])
       (.ret))))))⟩
/-- (*hurdle/learner.Learner).Base -/
def c_learner_Learner_Base (F : Nat → FuncId) (Ty : Nat → TypeId) : IFunc := ⟨9, [.tmp 2],
 .seq (.ops [⟨some 2, .move (.const (.int .i64 0)), none⟩])
  (.seq (.seq (.ops [⟨some 3, .move (.tmp 0), none⟩,
      ⟨some 4, .eqNil 0 false (.tmp 3), none⟩])
    (.cond (.tmp 4)
     (.seq (.ops [⟨some 2, .move (.const (.int .i64 0)), none⟩])
      (.ret))
     (.skip)))
   (.seq (.ops [⟨some 5, .move (.tmp 0), none⟩,
      ⟨some 6, .nilCheck (.tmp 5), none⟩,
      ⟨some 7, .fieldAddr 1 (.tmp 6), none⟩,
      ⟨some 8, .load1 (.tmp 7), none⟩,
      ⟨some 2, .move (.tmp 8), none⟩])
    (.ret)))⟩
/-- (*hurdle/learner.Learner).Log -/
def c_learner_Learner_Log (F : Nat → FuncId) (Ty : Nat → TypeId) : IFunc := ⟨31, [.tmp 4],
 .seq (.ops [⟨some 4, .move (.const (.slice none 0 0)), none⟩])
  (.seq (.seq (.ops [⟨some 7, .move (.tmp 0), none⟩,
      ⟨some 8, .eqNil 0 false (.tmp 7), none⟩])
    (.cond (.tmp 8)
     (.seq (.ops [⟨some 4, .move (.const (.slice none 0 0)), none⟩])
      (.ret))
     (.skip)))
   (.seq (.ops [⟨some 5, .move (.const (.slice none 0 0)), none⟩])
    (.seq (.seq (.ops [⟨some 9, .move (.tmp 1), none⟩,
        ⟨some 10, .move (.tmp 0), none⟩,
        ⟨some 11, .nilCheck (.tmp 10), none⟩,
        ⟨some 12, .fieldAddr 1 (.tmp 11), none⟩,
        ⟨some 13, .load1 (.tmp 12), none⟩,
        ⟨some 14, .mxn true (.tmp 9) (.tmp 13), none⟩,
        ⟨some 6, .move (.tmp 14), none⟩])
      (.block 0 (.loop (.seq (.seq (.ops [⟨some 15, .move (.tmp 6), none⟩,
            ⟨some 16, .move (.tmp 0), none⟩,
            ⟨some 17, .call (F 88) [.tmp 16], none⟩,
            ⟨some 18, .bin .lss (.tmp 15) (.tmp 17), none⟩])
          (.cond (.tmp 18)
           (.skip)
           (.exit 0)))
         (.seq (.block 1 (.ops [⟨some 21, .move (.tmp 5), none⟩,
             ⟨some 22, .move (.tmp 0), none⟩,
             ⟨some 23, .nilCheck (.tmp 22), none⟩,
             ⟨some 24, .fieldAddr 2 (.tmp 23), none⟩,
             ⟨some 25, .load1 (.tmp 24), none⟩,
             ⟨some 26, .move (.tmp 6), none⟩,
             ⟨some 27, .lookup (Ty 2) (.string ⟨#[]⟩) false (.tmp 25) (.tmp 26), none⟩,
             ⟨some 28, .buildSlice 1 [.string ⟨#[]⟩] [((0, 1), .tmp 27)], none⟩,
             ⟨some 29, .append 1 16 (.tmp 21) (.tmp 28), none⟩,
             ⟨some 5, .move (.tmp 29), none⟩]))
          (.ops [⟨some 19, .move (.tmp 6), none⟩,
            ⟨some 20, .bin .add (.tmp 19) (.const (.int .i64 1)), none⟩,
            ⟨some 6, .move (.tmp 20), none⟩]))))))
     (.seq (.ops [⟨some 30, .move (.tmp 5), none⟩,
        ⟨some 4, .move (.tmp 30), none⟩])
      (.ret)))))⟩
/-- (*hurdle/learner.Learner).Next -/
def c_learner_Learner_Next (F : Nat → FuncId) (Ty : Nat → TypeId) : IFunc := ⟨26, [.tmp 2],
 .seq (.ops [⟨some 2, .move (.const (.int .i64 0)), none⟩])
  (.seq (.seq (.ops [⟨some 6, .move (.tmp 0), none⟩,
      ⟨some 7, .eqNil 0 false (.tmp 6), none⟩])
    (.cond (.tmp 7)
     (.seq (.ops [⟨some 2, .move (.const (.int .i64 0)), none⟩])
      (.ret))
     (.skip)))
   (.seq (.ops [⟨some 8, .move (.tmp 0), none⟩,
      ⟨some 9, .nilCheck (.tmp 8), none⟩,
      ⟨some 10, .fieldAddr 1 (.tmp 9), none⟩,
      ⟨some 11, .load1 (.tmp 10), none⟩,
      ⟨some 3, .move (.tmp 11), none⟩])
    (.block 0 (.loop (.block 1 (.seq (.seq (.ops [⟨some 13, .move (.tmp 0), none⟩,
           ⟨some 14, .nilCheck (.tmp 13), none⟩,
           ⟨some 15, .fieldAddr 2 (.tmp 14), none⟩,
           ⟨some 16, .load1 (.tmp 15), none⟩,
           ⟨some 17, .move (.tmp 3), none⟩,
           ⟨some 18, .lookup (Ty 2) (.string ⟨#[]⟩) true (.tmp 16) (.tmp 17), none⟩,
           ⟨some 12, .move (.tmp 18), none⟩,
           ⟨some 19, .extract (.tmp 12) 0, none⟩,
           ⟨some 20, .extract (.tmp 12) 1, none⟩,
           ⟨some 4, .move (.tmp 19), none⟩,
           ⟨some 5, .move (.tmp 20), none⟩])
         (.seq (.ops [⟨some 21, .move (.tmp 5), none⟩,
            ⟨some 22, .un .not (.tmp 21), none⟩])
          (.cond (.tmp 22)
           (.seq (.ops [⟨some 23, .move (.tmp 3), none⟩,
              ⟨some 2, .move (.tmp 23), none⟩])
            (.ret))
           (.skip))))
        (.ops [⟨some 24, .move (.tmp 3), none⟩,
          ⟨some 25, .bin .add (.tmp 24) (.const (.int .i64 1)), none⟩,
          ⟨some 3, .move (.tmp 25), none⟩])))))))⟩
/-- (*hurdle/learner.Learner).may -/
def c_learner_Learner_may (F : Nat → FuncId) (Ty : Nat → TypeId) : IFunc := ⟨39, [.tmp 6],
 .seq (.ops [⟨some 6, .move (.const (.bool false)), none⟩])
  (.seq (.seq (.ops [⟨some 9, .move (.tmp 0), none⟩,
      ⟨some 10, .eqNil 0 false (.tmp 9), none⟩,
      ⟨some 11, .move (.tmp 10), none⟩,
      ⟨some 12, .move (.tmp 1), some (11, false)⟩,
      ⟨some 13, .move (.tmp 0), some (11, false)⟩,
      ⟨some 14, .nilCheck (.tmp 13), some (11, false)⟩,
      ⟨some 15, .fieldAddr 1 (.tmp 14), some (11, false)⟩,
      ⟨some 16, .load1 (.tmp 15), some (11, false)⟩,
      ⟨some 17, .bin .lss (.tmp 12) (.tmp 16), some (11, false)⟩,
      ⟨some 18, .pick (.tmp 11) (.const (.bool true)) (.tmp 17), none⟩,
      ⟨some 19, .move (.tmp 18), none⟩,
      ⟨some 20, .move (.tmp 1), some (19, false)⟩,
      ⟨some 21, .bin .geq (.tmp 20) (.const (.int .i64 1024)), some (19, false)⟩,
      ⟨some 22, .pick (.tmp 19) (.const (.bool true)) (.tmp 21), none⟩,
      ⟨some 23, .move (.tmp 22), none⟩,
      ⟨some 24, .move (.tmp 2), some (23, false)⟩,
      ⟨some 25, .strLen (.tmp 24), some (23, false)⟩,
      ⟨some 26, .bin .gtr (.tmp 25) (.const (.int .i64 4096)), some (23, false)⟩,
      ⟨some 27, .pick (.tmp 23) (.const (.bool true)) (.tmp 26), none⟩])
    (.cond (.tmp 27)
     (.seq (.ops [⟨some 6, .move (.const (.bool false)), none⟩])
      (.ret))
     (.skip)))
   (.seq (.ops [⟨some 29, .move (.tmp 0), none⟩,
      ⟨some 30, .nilCheck (.tmp 29), none⟩,
      ⟨some 31, .fieldAddr 2 (.tmp 30), none⟩,
      ⟨some 32, .load1 (.tmp 31), none⟩,
      ⟨some 33, .move (.tmp 1), none⟩,
      ⟨some 34, .lookup (Ty 2) (.string ⟨#[]⟩) true (.tmp 32) (.tmp 33), none⟩,
      ⟨some 28, .move (.tmp 34), none⟩,
      ⟨some 35, .extract (.tmp 28) 0, none⟩,
      ⟨some 36, .extract (.tmp 28) 1, none⟩,
      ⟨some 7, .move (.tmp 35), none⟩,
      ⟨some 8, .move (.tmp 36), none⟩])
    (.seq (.ops [⟨some 37, .move (.tmp 8), none⟩,
       ⟨some 38, .un .not (.tmp 37), none⟩,
       ⟨some 6, .move (.tmp 38), none⟩])
     (.ret))))⟩
/-- (*hurdle/learner.Learner).tally -/
def c_learner_Learner_tally (F : Nat → FuncId) (Ty : Nat → TypeId) : IFunc := ⟨38, [.tmp 4],
 .seq (.ops [⟨some 3, .box (.tmp 1), none⟩,
    ⟨some 4, .move (.const (.complex .f64 0 0)), none⟩])
  (.seq (.ops [⟨some 5, .move (.const (.complex .f64 0 0)), none⟩])
   (.seq (.seq (.ops [⟨some 9, .move (.tmp 0), none⟩,
       ⟨some 10, .nilCheck (.tmp 9), none⟩,
       ⟨some 11, .fieldAddr 0 (.tmp 10), none⟩,
       ⟨some 12, .load1 (.tmp 11), none⟩,
       ⟨some 13, .move (.const (.int .i64 0)), none⟩])
     (.block 0 (.loop (.seq (.ops [⟨some 14, .bin .lss (.tmp 13) (.tmp 12), none⟩])
        (.seq (.cond (.tmp 14)
          (.skip)
          (.exit 0))
         (.seq (.block 1 (.seq (.ops [⟨some 15, .move (.tmp 13), none⟩,
              ⟨some 6, .move (.tmp 15), none⟩])
            (.seq (.draw [(⟨some 17, .move (.tmp 0), none⟩, []),
               (⟨some 18, .nilCheck (.tmp 17), none⟩, []),
               (⟨some 19, .fieldAddr 3 (.tmp 18), none⟩, []),
               (⟨some 20, .load1 (.tmp 19), none⟩, []),
               (⟨some 21, .fieldAddr 0 (.tmp 3), none⟩, []),
               (⟨some 22, .load1 (.tmp 21), none⟩, []),
               (⟨some 23, .move (.tmp 6), none⟩, []),
               (⟨some 24, .build [.int .i64 0, .int .i64 0] [((0, 1), .tmp 22), ((1, 1), .tmp 23)], none⟩, []),
               (⟨some 25, .lookup (Ty 3) (.agg #[.int .i64 0, .int .i64 0, .int .i64 0, .string ⟨#[]⟩]) true (.tmp 20) (.tmp 24), none⟩, []),
               (⟨some 16, .move (.tmp 25), none⟩, []),
               (⟨some 26, .extract (.tmp 16) 0, none⟩, []),
               (⟨some 27, .extract (.tmp 16) 1, none⟩, []),
               (⟨some 7, .alloc [.int .i64 0, .int .i64 0, .int .i64 0, .string ⟨#[]⟩], none⟩, []),
               (⟨none, .store 4 (.tmp 7) (.tmp 26), none⟩, []),
               (⟨some 8, .move (.tmp 27), none⟩, [])])
             (.seq (.ops [⟨some 28, .move (.tmp 8), none⟩])
              (.cond (.tmp 28)
               (.seq (.ops [⟨some 29, .move (.tmp 5), none⟩,
                  ⟨some 30, .raw (.binOp .add (Ty 4) (.tmp 29) (.const (.complex .f64 0 4607182418800017408)) (Ty 4)) (Ty 4), none⟩,
                  ⟨some 5, .move (.tmp 30), none⟩])
                (.seq (.ops [⟨some 31, .loadN 4 (.tmp 7), none⟩,
                   ⟨some 32, .loadN 4 (.tmp 3), none⟩,
                   ⟨some 33, .eqv false [.i .i64, .i .i64, .i .i64, .s] (.tmp 31) (.tmp 32), none⟩])
                 (.cond (.tmp 33)
                  (.ops [⟨some 34, .move (.tmp 5), none⟩,
                    ⟨some 35, .raw (.binOp .add (Ty 4) (.tmp 34) (.const (.complex .f64 4607182418800017408 0)) (Ty 4)) (Ty 4), none⟩,
                    ⟨some 5, .move (.tmp 35), none⟩])
                  (.skip))))
               (.skip))))))
          (.ops [⟨some 36, .bin .add (.tmp 13) (.const (.int .i64 1)), none⟩,
            ⟨some 13, .move (.tmp 36), none⟩])))))))
    (.seq (.ops [⟨some 37, .move (.tmp 5), none⟩,
       ⟨some 4, .move (.tmp 37), none⟩])
     (.ret))))⟩
/-- (*hurdle/learner.Learner).forget -/
def c_learner_Learner_forget (F : Nat → FuncId) (Ty : Nat → TypeId) : IFunc := ⟨20, [],
 .seq (.ops [⟨some 5, .move (.tmp 0), none⟩,
    ⟨some 6, .nilCheck (.tmp 5), none⟩,
    ⟨some 7, .fieldAddr 0 (.tmp 6), none⟩,
    ⟨some 8, .load1 (.tmp 7), none⟩,
    ⟨some 9, .move (.const (.int .i64 0)), none⟩])
  (.block 0 (.loop (.seq (.ops [⟨some 10, .bin .lss (.tmp 9) (.tmp 8), none⟩])
     (.seq (.cond (.tmp 10)
       (.skip)
       (.exit 0))
      (.seq (.block 1 (.seq (.ops [⟨some 11, .move (.tmp 9), none⟩,
           ⟨some 4, .move (.tmp 11), none⟩])
         (.ops [⟨some 12, .move (.tmp 0), none⟩,
           ⟨some 13, .nilCheck (.tmp 12), none⟩,
           ⟨some 14, .fieldAddr 3 (.tmp 13), none⟩,
           ⟨some 15, .load1 (.tmp 14), none⟩,
           ⟨some 16, .move (.tmp 1), none⟩,
           ⟨some 17, .move (.tmp 4), none⟩,
           ⟨some 18, .build [.int .i64 0, .int .i64 0] [((0, 1), .tmp 16), ((1, 1), .tmp 17)], none⟩,
           ⟨none, .delete (Ty 3) (.tmp 15) (.tmp 18), none⟩])))
       (.ops [⟨some 19, .bin .add (.tmp 9) (.const (.int .i64 1)), none⟩,
         ⟨some 9, .move (.tmp 19), none⟩]))))))⟩
/-- A context has these functions. -/
structure HasLearner (c : Ctx) : Prop where
  learner_New : c.IP (c.F 81) = some (c_learner_New c.F c.Ty)
  learner_Learner_Told : c.IP (c.F 82) = some (c_learner_Learner_Told c.F c.Ty)
  learner_Learner_Hear : c.IP (c.F 83) = some (c_learner_Learner_Hear c.F c.Ty)
  learner_Learner_Tell : c.IP (c.F 84) = some (c_learner_Learner_Tell c.F c.Ty)
  learner_Learner_Trim : c.IP (c.F 85) = some (c_learner_Learner_Trim c.F c.Ty)
  learner_Learner_Base : c.IP (c.F 86) = some (c_learner_Learner_Base c.F c.Ty)
  learner_Learner_Log : c.IP (c.F 87) = some (c_learner_Learner_Log c.F c.Ty)
  learner_Learner_Next : c.IP (c.F 88) = some (c_learner_Learner_Next c.F c.Ty)
  learner_Learner_may : c.IP (c.F 89) = some (c_learner_Learner_may c.F c.Ty)
  learner_Learner_tally : c.IP (c.F 90) = some (c_learner_Learner_tally c.F c.Ty)
  learner_Learner_forget : c.IP (c.F 91) = some (c_learner_Learner_forget c.F c.Ty)

end Go.Proofs.YtpklgklmjhblpaaI
