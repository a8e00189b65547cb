/- PRINTED by gen.py (this session's own): the intermediate form of some functions, and a context's having them. -/
import Derived.Test.YtpklgklmjhblpaaPartLearner
namespace Go.Proofs.YtpklgklmjhblpaaI
set_option linter.unusedSimpArgs false
set_option linter.unusedVariables false
open Go

/-- hurdle/hurdlelaw20.LearnerStays -/
abbrev n_hurdlelaw20_LearnerStays : Nat := 92
/-- hurdle/hurdlelaw20.LearnerQuorum -/
abbrev n_hurdlelaw20_LearnerQuorum : Nat := 93
/-- hurdle/hurdlelaw20.LearnerNone -/
abbrev n_hurdlelaw20_LearnerNone : Nat := 94
/-- hurdle/hurdlelaw20.Few -/
abbrev n_hurdlelaw20_Few : Nat := 95
/-- hurdle/hurdlelaw20.awake -/
abbrev n_hurdlelaw20_awake : Nat := 96
/-- hurdle/hurdlelaw20.LearnerStays -/
def c_hurdlelaw20_LearnerStays (F : Nat → FuncId) (Ty : Nat → TypeId) : IFunc := ⟨140, [.tmp 4],
 .seq (.ops [⟨some 4, .move (.const (.bool false)), none⟩])
  (.seq (.seq (.ops [⟨some 16, .move (.tmp 1), none⟩,
      ⟨some 17, .call (F 95) [.tmp 16], none⟩,
      ⟨some 18, .bin .eql (.tmp 17) (.const (.int .i64 0)), none⟩])
    (.cond (.tmp 18)
     (.seq (.ops [⟨some 19, .call (F 96) [], none⟩,
        ⟨some 4, .move (.tmp 19), none⟩])
      (.ret))
     (.skip)))
   (.seq (.ops [⟨some 20, .move (.tmp 0), none⟩,
      ⟨some 21, .call (F 81) [.tmp 20], none⟩,
      ⟨some 5, .move (.tmp 21), none⟩])
    (.seq (.seq (.ops [⟨some 22, .move (.tmp 5), none⟩,
        ⟨some 23, .eqNil 0 false (.tmp 22), none⟩])
      (.cond (.tmp 23)
       (.seq (.ops [⟨some 24, .call (F 96) [], none⟩,
          ⟨some 4, .move (.tmp 24), none⟩])
        (.ret))
       (.skip)))
     (.seq (.seq (.ops [⟨some 6, .move (.const (.int .i64 0)), none⟩])
       (.block 0 (.loop (.seq (.seq (.ops [⟨some 25, .move (.tmp 6), none⟩,
             ⟨some 26, .move (.tmp 1), none⟩,
             ⟨some 27, .lenSl (.tmp 26), none⟩,
             ⟨some 28, .bin .lss (.tmp 25) (.tmp 27), none⟩])
           (.cond (.tmp 28)
            (.skip)
            (.exit 0)))
          (.seq (.block 1 (.seq (.ops [⟨some 31, .move (.tmp 1), none⟩,
               ⟨some 32, .move (.tmp 6), none⟩,
               ⟨some 33, .idxSl 6 (.tmp 31) (.tmp 32), none⟩,
               ⟨some 34, .fieldAddr 2 (.tmp 33), none⟩,
               ⟨some 35, .loadN 4 (.tmp 34), none⟩,
               ⟨some 7, .alloc [.int .i64 0, .int .i64 0, .int .i64 0, .string ⟨#[]⟩], none⟩,
               ⟨none, .store 4 (.tmp 7) (.tmp 35), none⟩])
             (.seq (.ops [⟨some 37, .move (.tmp 5), none⟩,
                ⟨some 38, .fieldAddr 0 (.tmp 7), none⟩,
                ⟨some 39, .load1 (.tmp 38), none⟩,
                ⟨some 40, .call (F 82) [.tmp 37, .tmp 39], none⟩,
                ⟨some 36, .move (.tmp 40), none⟩,
                ⟨some 41, .extract (.tmp 36) 0, none⟩,
                ⟨some 42, .extract (.tmp 36) 1, none⟩,
                ⟨some 8, .move (.tmp 41), none⟩,
                ⟨some 9, .move (.tmp 42), none⟩])
              (.seq (.seq (.ops [⟨some 43, .move (.tmp 1), none⟩,
                  ⟨some 44, .move (.tmp 6), none⟩,
                  ⟨some 45, .idxSl 6 (.tmp 43) (.tmp 44), none⟩,
                  ⟨some 46, .fieldAddr 0 (.tmp 45), none⟩,
                  ⟨some 47, .load1 (.tmp 46), none⟩])
                (.block 2 (.seq (.ops [⟨some 49, .bin .eql (.tmp 47) (.const (.int .i64 0)), none⟩,
                    ⟨some 48, .move (.tmp 49), none⟩])
                  (.cond (.tmp 48)
                   (.draw [(⟨some 50, .move (.tmp 5), none⟩, []),
                     (⟨some 51, .move (.tmp 1), none⟩, []),
                     (⟨some 52, .move (.tmp 6), none⟩, []),
                     (⟨some 53, .idxSl 6 (.tmp 51) (.tmp 52), none⟩, []),
                     (⟨some 54, .fieldAddr 1 (.tmp 53), none⟩, []),
                     (⟨some 55, .load1 (.tmp 54), none⟩, []),
                     (⟨some 56, .loadN 4 (.tmp 7), none⟩, []),
                     (⟨some 57, .call (F 83) [.tmp 50, .tmp 55, .tmp 56], none⟩, [])])
                   (.seq (.ops [⟨some 59, .bin .eql (.tmp 47) (.const (.int .i64 1)), none⟩,
                      ⟨some 58, .move (.tmp 59), none⟩])
                    (.cond (.tmp 58)
                     (.ops [⟨some 60, .move (.tmp 5), none⟩,
                       ⟨some 61, .fieldAddr 0 (.tmp 7), none⟩,
                       ⟨some 62, .load1 (.tmp 61), none⟩,
                       ⟨some 63, .fieldAddr 3 (.tmp 7), none⟩,
                       ⟨some 64, .load1 (.tmp 63), none⟩,
                       ⟨some 65, .call (F 84) [.tmp 60, .tmp 62, .tmp 64], none⟩])
                     (.seq (.ops [⟨some 67, .bin .eql (.tmp 47) (.const (.int .i64 2)), none⟩,
                        ⟨some 66, .move (.tmp 67), none⟩])
                      (.cond (.tmp 66)
                       (.ops [⟨some 68, .move (.tmp 5), none⟩,
                         ⟨some 69, .fieldAddr 0 (.tmp 7), none⟩,
                         ⟨some 70, .load1 (.tmp 69), none⟩,
                         ⟨some 71, .call (F 85) [.tmp 68, .tmp 70], none⟩])
                       (.skip)))))))))
               (.seq (.ops [⟨some 73, .move (.tmp 5), none⟩,
                  ⟨some 74, .fieldAddr 0 (.tmp 7), none⟩,
                  ⟨some 75, .load1 (.tmp 74), none⟩,
                  ⟨some 76, .call (F 82) [.tmp 73, .tmp 75], none⟩,
                  ⟨some 72, .move (.tmp 76), none⟩,
                  ⟨some 77, .extract (.tmp 72) 0, none⟩,
                  ⟨some 78, .extract (.tmp 72) 1, none⟩,
                  ⟨some 10, .move (.tmp 77), none⟩,
                  ⟨some 11, .move (.tmp 78), none⟩])
                (.seq (.draw [(⟨some 79, .move (.tmp 9), none⟩, []),
                   (⟨some 80, .move (.tmp 79), none⟩, []),
                   (⟨some 81, .move (.tmp 11), some (80, true)⟩, []),
                   (⟨some 82, .pick (.tmp 80) (.tmp 81) (.const (.bool false)), none⟩, []),
                   (⟨some 83, .move (.tmp 82), none⟩, []),
                   (⟨some 84, .move (.tmp 10), some (83, true)⟩, []),
                   (⟨some 85, .move (.tmp 8), some (83, true)⟩, []),
                   (⟨some 86, .bin .neq (.tmp 84) (.tmp 85), some (83, true)⟩, []),
                   (⟨some 87, .pick (.tmp 83) (.tmp 86) (.const (.bool false)), none⟩, []),
                   (⟨some 88, .move (.tmp 87), none⟩, []),
                   (⟨some 89, .move (.tmp 9), some (88, false)⟩, []),
                   (⟨some 90, .move (.tmp 89), some (88, false)⟩, []),
                   (⟨some 91, .move (.tmp 11), some (90, true)⟩, []),
                   (⟨some 92, .un .not (.tmp 91), some (90, true)⟩, []),
                   (⟨some 93, .pick (.tmp 90) (.tmp 92) (.const (.bool false)), some (88, false)⟩, []),
                   (⟨some 94, .move (.tmp 93), some (88, false)⟩, []),
                   (⟨some 95, .move (.tmp 5), some (94, true)⟩, []),
                   (⟨some 97, .fieldAddr 0 (.tmp 7), some (94, true)⟩, []),
                   (⟨some 98, .load1 (.tmp 97), some (94, true)⟩, []),
                   (⟨some 96, .call (F 86) [.tmp 95], some (94, true)⟩, [⟨some 98, .load1 (.tmp 97), some (94, true)⟩]),
                   (⟨some 99, .bin .leq (.tmp 96) (.tmp 98), some (94, true)⟩, []),
                   (⟨some 100, .pick (.tmp 94) (.tmp 99) (.const (.bool false)), some (88, false)⟩, []),
                   (⟨some 101, .pick (.tmp 88) (.const (.bool true)) (.tmp 100), none⟩, [])])
                 (.cond (.tmp 101)
                  (.seq (.ops [⟨some 4, .move (.const (.bool false)), none⟩])
                   (.ret))
                  (.skip))))))))
           (.ops [⟨some 29, .move (.tmp 6), none⟩,
             ⟨some 30, .bin .add (.tmp 29) (.const (.int .i64 1)), none⟩,
             ⟨some 6, .move (.tmp 30), none⟩]))))))
      (.seq (.ops [⟨some 102, .move (.tmp 5), none⟩,
         ⟨some 103, .call (F 87) [.tmp 102, .const (.int .i64 0)], none⟩,
         ⟨some 12, .move (.tmp 103), none⟩])
       (.seq (.seq (.ops [⟨some 13, .move (.const (.int .i64 0)), none⟩])
         (.block 3 (.loop (.seq (.seq (.ops [⟨some 104, .move (.tmp 13), none⟩,
               ⟨some 105, .move (.tmp 12), none⟩,
               ⟨some 106, .lenSl (.tmp 105), none⟩,
               ⟨some 107, .bin .lss (.tmp 104) (.tmp 106), none⟩])
             (.cond (.tmp 107)
              (.skip)
              (.exit 3)))
            (.seq (.block 4 (.seq (.ops [⟨some 111, .move (.tmp 5), none⟩,
                 ⟨some 112, .move (.tmp 5), none⟩,
                 ⟨some 113, .call (F 86) [.tmp 112], none⟩,
                 ⟨some 114, .move (.tmp 13), none⟩,
                 ⟨some 115, .bin .add (.tmp 113) (.tmp 114), none⟩,
                 ⟨some 116, .call (F 82) [.tmp 111, .tmp 115], none⟩,
                 ⟨some 110, .move (.tmp 116), none⟩,
                 ⟨some 117, .extract (.tmp 110) 0, none⟩,
                 ⟨some 118, .extract (.tmp 110) 1, none⟩,
                 ⟨some 14, .move (.tmp 117), none⟩,
                 ⟨some 15, .move (.tmp 118), none⟩])
               (.seq (.ops [⟨some 119, .move (.tmp 15), none⟩,
                  ⟨some 120, .un .not (.tmp 119), none⟩,
                  ⟨some 121, .move (.tmp 120), none⟩,
                  ⟨some 122, .move (.tmp 14), some (121, false)⟩,
                  ⟨some 123, .move (.tmp 12), some (121, false)⟩,
                  ⟨some 124, .move (.tmp 13), some (121, false)⟩,
                  ⟨some 125, .idxSl 1 (.tmp 123) (.tmp 124), some (121, false)⟩,
                  ⟨some 126, .load1 (.tmp 125), some (121, false)⟩,
                  ⟨some 127, .bin .neq (.tmp 122) (.tmp 126), some (121, false)⟩,
                  ⟨some 128, .pick (.tmp 121) (.const (.bool true)) (.tmp 127), none⟩])
                (.cond (.tmp 128)
                 (.seq (.ops [⟨some 4, .move (.const (.bool false)), none⟩])
                  (.ret))
                 (.skip)))))
             (.ops [⟨some 108, .move (.tmp 13), none⟩,
               ⟨some 109, .bin .add (.tmp 108) (.const (.int .i64 1)), none⟩,
               ⟨some 13, .move (.tmp 109), none⟩]))))))
        (.seq (.ops [⟨some 129, .move (.tmp 5), none⟩,
           ⟨some 130, .call (F 88) [.tmp 129], none⟩,
           ⟨some 131, .move (.tmp 5), none⟩,
           ⟨some 132, .call (F 86) [.tmp 131], none⟩,
           ⟨some 133, .move (.tmp 12), none⟩,
           ⟨some 134, .lenSl (.tmp 133), none⟩,
           ⟨some 135, .bin .add (.tmp 132) (.tmp 134), none⟩,
           ⟨some 136, .bin .eql (.tmp 130) (.tmp 135), none⟩,
           ⟨some 137, .move (.tmp 136), none⟩,
           ⟨some 138, .call (F 96) [], some (137, true)⟩,
           ⟨some 139, .pick (.tmp 137) (.tmp 138) (.const (.bool false)), none⟩,
           ⟨some 4, .move (.tmp 139), none⟩])
         (.ret))))))))⟩
/-- hurdle/hurdlelaw20.LearnerQuorum -/
def c_hurdlelaw20_LearnerQuorum (F : Nat → FuncId) (Ty : Nat → TypeId) : IFunc := ⟨59, [.tmp 4],
 .seq (.ops [⟨some 4, .move (.const (.bool false)), none⟩])
  (.seq (.seq (.ops [⟨some 7, .move (.tmp 1), none⟩,
      ⟨some 8, .call (F 95) [.tmp 7], none⟩,
      ⟨some 9, .bin .eql (.tmp 8) (.const (.int .i64 0)), none⟩,
      ⟨some 10, .move (.tmp 9), none⟩,
      ⟨some 11, .move (.tmp 0), some (10, false)⟩,
      ⟨some 12, .call (F 18) [.tmp 11], some (10, false)⟩,
      ⟨some 13, .bin .eql (.tmp 12) (.const (.int .i64 0)), some (10, false)⟩,
      ⟨some 14, .pick (.tmp 10) (.const (.bool true)) (.tmp 13), none⟩])
    (.cond (.tmp 14)
     (.seq (.ops [⟨some 15, .call (F 96) [], none⟩,
        ⟨some 4, .move (.tmp 15), none⟩])
      (.ret))
     (.skip)))
   (.seq (.ops [⟨some 16, .move (.tmp 0), none⟩,
      ⟨some 17, .call (F 81) [.tmp 16], none⟩,
      ⟨some 5, .move (.tmp 17), none⟩])
    (.seq (.seq (.ops [⟨some 6, .move (.const (.int .i64 0)), none⟩])
      (.block 0 (.loop (.seq (.seq (.ops [⟨some 18, .move (.tmp 6), none⟩,
            ⟨some 19, .move (.tmp 1), none⟩,
            ⟨some 20, .lenSl (.tmp 19), none⟩,
            ⟨some 21, .bin .lss (.tmp 18) (.tmp 20), none⟩])
          (.cond (.tmp 21)
           (.skip)
           (.exit 0)))
         (.seq (.block 1 (.seq (.draw [(⟨some 24, .move (.tmp 1), none⟩, []),
              (⟨some 25, .move (.tmp 6), none⟩, []),
              (⟨some 26, .idxSl 6 (.tmp 24) (.tmp 25), none⟩, []),
              (⟨some 27, .fieldAddr 1 (.tmp 26), none⟩, []),
              (⟨some 28, .load1 (.tmp 27), none⟩, []),
              (⟨some 29, .move (.tmp 0), none⟩, []),
              (⟨some 30, .call (F 18) [.tmp 29], none⟩, [⟨some 28, .load1 (.tmp 27), none⟩]),
              (⟨some 31, .bin .sub (.tmp 30) (.const (.int .i64 1)), none⟩, []),
              (⟨some 32, .bin .lss (.tmp 28) (.tmp 31), none⟩, []),
              (⟨some 33, .move (.tmp 32), none⟩, []),
              (⟨some 34, .move (.tmp 5), some (33, true)⟩, []),
              (⟨some 35, .move (.tmp 1), some (33, true)⟩, []),
              (⟨some 36, .move (.tmp 6), some (33, true)⟩, []),
              (⟨some 37, .idxSl 6 (.tmp 35) (.tmp 36), some (33, true)⟩, []),
              (⟨some 38, .fieldAddr 1 (.tmp 37), some (33, true)⟩, []),
              (⟨some 39, .load1 (.tmp 38), some (33, true)⟩, []),
              (⟨some 40, .move (.tmp 1), some (33, true)⟩, []),
              (⟨some 41, .move (.tmp 6), some (33, true)⟩, []),
              (⟨some 42, .idxSl 6 (.tmp 40) (.tmp 41), some (33, true)⟩, []),
              (⟨some 43, .fieldAddr 2 (.tmp 42), some (33, true)⟩, []),
              (⟨some 44, .loadN 4 (.tmp 43), some (33, true)⟩, []),
              (⟨some 45, .call (F 83) [.tmp 34, .tmp 39, .tmp 44], some (33, true)⟩, []),
              (⟨some 46, .pick (.tmp 33) (.tmp 45) (.const (.bool false)), none⟩, [])])
            (.cond (.tmp 46)
             (.seq (.ops [⟨some 4, .move (.const (.bool false)), none⟩])
              (.ret))
             (.skip))))
          (.ops [⟨some 22, .move (.tmp 6), none⟩,
            ⟨some 23, .bin .add (.tmp 22) (.const (.int .i64 1)), none⟩,
            ⟨some 6, .move (.tmp 23), none⟩]))))))
     (.seq (.ops [⟨some 47, .move (.tmp 5), none⟩,
        ⟨some 48, .call (F 88) [.tmp 47], none⟩,
        ⟨some 49, .bin .eql (.tmp 48) (.const (.int .i64 0)), none⟩,
        ⟨some 50, .move (.tmp 49), none⟩,
        ⟨some 51, .move (.tmp 5), some (50, true)⟩,
        ⟨some 52, .call (F 87) [.tmp 51, .const (.int .i64 0)], some (50, true)⟩,
        ⟨some 53, .lenSl (.tmp 52), some (50, true)⟩,
        ⟨some 54, .bin .eql (.tmp 53) (.const (.int .i64 0)), some (50, true)⟩,
        ⟨some 55, .pick (.tmp 50) (.tmp 54) (.const (.bool false)), none⟩,
        ⟨some 56, .move (.tmp 55), none⟩,
        ⟨some 57, .call (F 96) [], some (56, true)⟩,
        ⟨some 58, .pick (.tmp 56) (.tmp 57) (.const (.bool false)), none⟩,
        ⟨some 4, .move (.tmp 58), none⟩])
      (.ret)))))⟩
/-- hurdle/hurdlelaw20.LearnerNone -/
def c_hurdlelaw20_LearnerNone (F : Nat → FuncId) (Ty : Nat → TypeId) : IFunc := ⟨67, [.tmp 2],
 .seq (.ops [⟨some 1, .box (.tmp 0), none⟩,
    ⟨some 2, .move (.const (.bool false)), none⟩])
  (.seq (.ops [⟨some 3, .move (.const (.pointer none)), none⟩])
   (.seq (.ops [⟨some 7, .move (.tmp 3), none⟩,
      ⟨some 8, .fieldAddr 2 (.tmp 1), none⟩,
      ⟨some 9, .fieldAddr 0 (.tmp 8), none⟩,
      ⟨some 10, .load1 (.tmp 9), none⟩,
      ⟨some 11, .call (F 82) [.tmp 7, .tmp 10], none⟩,
      ⟨some 6, .move (.tmp 11), none⟩,
      ⟨some 12, .extract (.tmp 6) 0, none⟩,
      ⟨some 13, .extract (.tmp 6) 1, none⟩,
      ⟨some 4, .move (.tmp 12), none⟩,
      ⟨some 5, .move (.tmp 13), none⟩])
    (.seq (.ops [⟨some 14, .move (.tmp 3), none⟩,
       ⟨some 15, .fieldAddr 1 (.tmp 1), none⟩,
       ⟨some 16, .load1 (.tmp 15), none⟩,
       ⟨some 17, .fieldAddr 2 (.tmp 1), none⟩,
       ⟨some 18, .loadN 4 (.tmp 17), none⟩,
       ⟨some 19, .call (F 83) [.tmp 14, .tmp 16, .tmp 18], none⟩,
       ⟨some 20, .un .not (.tmp 19), none⟩,
       ⟨some 21, .move (.tmp 20), none⟩,
       ⟨some 22, .move (.tmp 4), some (21, true)⟩,
       ⟨some 23, .bin .eql (.tmp 22) (.const (.string ⟨#[]⟩)), some (21, true)⟩,
       ⟨some 24, .pick (.tmp 21) (.tmp 23) (.const (.bool false)), none⟩,
       ⟨some 25, .move (.tmp 24), none⟩,
       ⟨some 26, .move (.tmp 5), some (25, true)⟩,
       ⟨some 27, .un .not (.tmp 26), some (25, true)⟩,
       ⟨some 28, .pick (.tmp 25) (.tmp 27) (.const (.bool false)), none⟩,
       ⟨some 29, .move (.tmp 28), none⟩,
       ⟨some 30, .move (.tmp 3), some (29, true)⟩,
       ⟨some 31, .fieldAddr 2 (.tmp 1), some (29, true)⟩,
       ⟨some 32, .fieldAddr 0 (.tmp 31), some (29, true)⟩,
       ⟨some 33, .load1 (.tmp 32), some (29, true)⟩,
       ⟨some 34, .fieldAddr 2 (.tmp 1), some (29, true)⟩,
       ⟨some 35, .fieldAddr 3 (.tmp 34), some (29, true)⟩,
       ⟨some 36, .load1 (.tmp 35), some (29, true)⟩,
       ⟨some 37, .call (F 84) [.tmp 30, .tmp 33, .tmp 36], some (29, true)⟩,
       ⟨some 38, .un .not (.tmp 37), some (29, true)⟩,
       ⟨some 39, .pick (.tmp 29) (.tmp 38) (.const (.bool false)), none⟩,
       ⟨some 40, .move (.tmp 39), none⟩,
       ⟨some 41, .move (.tmp 3), some (40, true)⟩,
       ⟨some 42, .call (F 88) [.tmp 41], some (40, true)⟩,
       ⟨some 43, .bin .eql (.tmp 42) (.const (.int .i64 0)), some (40, true)⟩,
       ⟨some 44, .pick (.tmp 40) (.tmp 43) (.const (.bool false)), none⟩,
       ⟨some 45, .move (.tmp 44), none⟩,
       ⟨some 46, .move (.tmp 3), some (45, true)⟩,
       ⟨some 47, .call (F 87) [.tmp 46, .const (.int .i64 0)], some (45, true)⟩,
       ⟨some 48, .lenSl (.tmp 47), some (45, true)⟩,
       ⟨some 49, .bin .eql (.tmp 48) (.const (.int .i64 0)), some (45, true)⟩,
       ⟨some 50, .pick (.tmp 45) (.tmp 49) (.const (.bool false)), none⟩,
       ⟨some 51, .move (.tmp 50), none⟩,
       ⟨some 52, .move (.tmp 3), some (51, true)⟩,
       ⟨some 53, .fieldAddr 2 (.tmp 1), some (51, true)⟩,
       ⟨some 54, .fieldAddr 0 (.tmp 53), some (51, true)⟩,
       ⟨some 55, .load1 (.tmp 54), some (51, true)⟩,
       ⟨some 56, .call (F 85) [.tmp 52, .tmp 55], some (51, true)⟩,
       ⟨some 57, .bin .eql (.tmp 56) (.const (.int .i64 0)), some (51, true)⟩,
       ⟨some 58, .pick (.tmp 51) (.tmp 57) (.const (.bool false)), none⟩,
       ⟨some 59, .move (.tmp 58), none⟩,
       ⟨some 60, .move (.tmp 3), some (59, true)⟩,
       ⟨some 61, .call (F 86) [.tmp 60], some (59, true)⟩,
       ⟨some 62, .bin .eql (.tmp 61) (.const (.int .i64 0)), some (59, true)⟩,
       ⟨some 63, .pick (.tmp 59) (.tmp 62) (.const (.bool false)), none⟩,
       ⟨some 64, .move (.tmp 63), none⟩,
       ⟨some 65, .call (F 96) [], some (64, true)⟩,
       ⟨some 66, .pick (.tmp 64) (.tmp 65) (.const (.bool false)), none⟩,
       ⟨some 2, .move (.tmp 66), none⟩])
     (.ret))))⟩
/-- hurdle/hurdlelaw20.Few -/
def c_hurdlelaw20_Few (F : Nat → FuncId) (Ty : Nat → TypeId) : IFunc := ⟨21, [.tmp 2],
 .seq (.ops [⟨some 2, .move (.const (.int .i64 0)), none⟩])
  (.seq (.seq (.ops [⟨some 4, .move (.tmp 0), none⟩,
      ⟨some 5, .lenSl (.tmp 4), none⟩,
      ⟨some 6, .bin .gtr (.tmp 5) (.const (.int .i64 60)), none⟩])
    (.cond (.tmp 6)
     (.seq (.ops [⟨some 2, .move (.const (.int .i64 0)), none⟩])
      (.ret))
     (.skip)))
   (.seq (.seq (.ops [⟨some 3, .move (.const (.int .i64 0)), none⟩])
     (.block 0 (.loop (.seq (.seq (.ops [⟨some 7, .move (.tmp 3), none⟩,
           ⟨some 8, .move (.tmp 0), none⟩,
           ⟨some 9, .lenSl (.tmp 8), none⟩,
           ⟨some 10, .bin .lss (.tmp 7) (.tmp 9), none⟩])
         (.cond (.tmp 10)
          (.skip)
          (.exit 0)))
        (.seq (.block 1 (.seq (.ops [⟨some 13, .move (.tmp 0), none⟩,
             ⟨some 14, .move (.tmp 3), none⟩,
             ⟨some 15, .idxSl 6 (.tmp 13) (.tmp 14), none⟩,
             ⟨some 16, .fieldAddr 2 (.tmp 15), none⟩,
             ⟨some 17, .fieldAddr 3 (.tmp 16), none⟩,
             ⟨some 18, .load1 (.tmp 17), none⟩,
             ⟨some 19, .strLen (.tmp 18), none⟩,
             ⟨some 20, .bin .gtr (.tmp 19) (.const (.int .i64 5000)), none⟩])
           (.cond (.tmp 20)
            (.seq (.ops [⟨some 2, .move (.const (.int .i64 0)), none⟩])
             (.ret))
            (.skip))))
         (.ops [⟨some 11, .move (.tmp 3), none⟩,
           ⟨some 12, .bin .add (.tmp 11) (.const (.int .i64 1)), none⟩,
           ⟨some 3, .move (.tmp 12), none⟩]))))))
    (.seq (.ops [⟨some 2, .move (.const (.int .i64 1)), none⟩])
     (.ret))))⟩
/-- hurdle/hurdlelaw20.awake -/
def c_hurdlelaw20_awake (F : Nat → FuncId) (Ty : Nat → TypeId) : IFunc := ⟨85, [.tmp 0],
 .seq (.ops [⟨some 0, .move (.const (.bool false)), none⟩])
  (.seq (.ops [⟨some 12, .call (F 81) [.const (.int .i64 3)], none⟩,
     ⟨some 1, .move (.tmp 12), none⟩])
   (.seq (.seq (.ops [⟨some 13, .move (.tmp 1), none⟩,
       ⟨some 14, .eqNil 0 false (.tmp 13), none⟩,
       ⟨some 15, .move (.tmp 14), none⟩,
       ⟨some 16, .call (F 81) [.const (.int .i64 8)], some (15, false)⟩,
       ⟨some 17, .eqNil 0 true (.tmp 16), some (15, false)⟩,
       ⟨some 18, .pick (.tmp 15) (.const (.bool true)) (.tmp 17), none⟩])
     (.cond (.tmp 18)
      (.seq (.ops [⟨some 0, .move (.const (.bool false)), none⟩])
       (.ret))
      (.skip)))
    (.seq (.ops [⟨some 19, .build [.int .i64 0, .int .i64 0] [((0, 1), .const (.int .i64 1))], none⟩,
       ⟨some 20, .build [.int .i64 0, .int .i64 0, .int .i64 0, .string ⟨#[]⟩] [((1, 2), .tmp 19), ((3, 1), .const (.string ⟨#[120]⟩))], none⟩,
       ⟨some 2, .alloc [.int .i64 0, .int .i64 0, .int .i64 0, .string ⟨#[]⟩], none⟩,
       ⟨none, .store 4 (.tmp 2) (.tmp 20), none⟩])
     (.seq (.draw [(⟨some 21, .move (.tmp 1), none⟩, []),
        (⟨some 22, .loadN 4 (.tmp 2), none⟩, []),
        (⟨some 24, .move (.tmp 1), none⟩, []),
        (⟨some 25, .loadN 4 (.tmp 2), none⟩, []),
        (⟨some 27, .move (.tmp 1), none⟩, []),
        (⟨some 28, .loadN 4 (.tmp 2), none⟩, []),
        (⟨some 23, .call (F 83) [.tmp 21, .const (.int .i64 0), .tmp 22], none⟩, [⟨some 25, .loadN 4 (.tmp 2), none⟩, ⟨some 28, .loadN 4 (.tmp 2), none⟩]),
        (⟨some 26, .call (F 83) [.tmp 24, .const (.int .i64 0), .tmp 25], none⟩, [⟨some 28, .loadN 4 (.tmp 2), none⟩]),
        (⟨some 29, .call (F 83) [.tmp 27, .const (.int .i64 2), .tmp 28], none⟩, []),
        (⟨some 3, .move (.tmp 23), none⟩, []),
        (⟨some 4, .move (.tmp 26), none⟩, []),
        (⟨some 5, .move (.tmp 29), none⟩, [])])
      (.seq (.ops [⟨some 31, .move (.tmp 1), none⟩,
         ⟨some 32, .call (F 82) [.tmp 31, .const (.int .i64 0)], none⟩,
         ⟨some 30, .move (.tmp 32), none⟩,
         ⟨some 33, .extract (.tmp 30) 0, none⟩,
         ⟨some 34, .extract (.tmp 30) 1, none⟩,
         ⟨some 6, .move (.tmp 33), none⟩,
         ⟨some 7, .move (.tmp 34), none⟩])
       (.seq (.ops [⟨some 35, .move (.tmp 1), none⟩,
          ⟨some 36, .call (F 84) [.tmp 35, .const (.int .i64 1), .const (.string ⟨#[121]⟩)], none⟩,
          ⟨some 37, .move (.tmp 1), none⟩,
          ⟨some 38, .call (F 84) [.tmp 37, .const (.int .i64 1), .const (.string ⟨#[122]⟩)], none⟩,
          ⟨some 8, .move (.tmp 36), none⟩,
          ⟨some 9, .move (.tmp 38), none⟩])
        (.seq (.ops [⟨some 39, .move (.tmp 1), none⟩,
           ⟨some 40, .call (F 87) [.tmp 39, .const (.int .i64 0)], none⟩,
           ⟨some 10, .move (.tmp 40), none⟩])
         (.seq (.ops [⟨some 41, .move (.tmp 1), none⟩,
            ⟨some 42, .call (F 85) [.tmp 41, .const (.int .i64 9)], none⟩,
            ⟨some 11, .move (.tmp 42), none⟩])
          (.seq (.ops [⟨some 43, .move (.tmp 3), none⟩,
             ⟨some 44, .un .not (.tmp 43), none⟩,
             ⟨some 45, .move (.tmp 44), none⟩,
             ⟨some 46, .move (.tmp 4), some (45, true)⟩,
             ⟨some 47, .un .not (.tmp 46), some (45, true)⟩,
             ⟨some 48, .pick (.tmp 45) (.tmp 47) (.const (.bool false)), none⟩,
             ⟨some 49, .move (.tmp 48), none⟩,
             ⟨some 50, .move (.tmp 5), some (49, true)⟩,
             ⟨some 51, .pick (.tmp 49) (.tmp 50) (.const (.bool false)), none⟩,
             ⟨some 52, .move (.tmp 51), none⟩,
             ⟨some 53, .move (.tmp 6), some (52, true)⟩,
             ⟨some 54, .bin .eql (.tmp 53) (.const (.string ⟨#[120]⟩)), some (52, true)⟩,
             ⟨some 55, .pick (.tmp 52) (.tmp 54) (.const (.bool false)), none⟩,
             ⟨some 56, .move (.tmp 55), none⟩,
             ⟨some 57, .move (.tmp 7), some (56, true)⟩,
             ⟨some 58, .pick (.tmp 56) (.tmp 57) (.const (.bool false)), none⟩,
             ⟨some 59, .move (.tmp 58), none⟩,
             ⟨some 60, .move (.tmp 8), some (59, true)⟩,
             ⟨some 61, .pick (.tmp 59) (.tmp 60) (.const (.bool false)), none⟩,
             ⟨some 62, .move (.tmp 61), none⟩,
             ⟨some 63, .move (.tmp 9), some (62, true)⟩,
             ⟨some 64, .un .not (.tmp 63), some (62, true)⟩,
             ⟨some 65, .pick (.tmp 62) (.tmp 64) (.const (.bool false)), none⟩,
             ⟨some 66, .move (.tmp 65), none⟩,
             ⟨some 67, .move (.tmp 10), some (66, true)⟩,
             ⟨some 68, .buildSlice 2 [.string ⟨#[]⟩, .string ⟨#[]⟩] [((0, 1), .const (.string ⟨#[120]⟩)), ((1, 1), .const (.string ⟨#[121]⟩))], some (66, true)⟩,
             ⟨some 69, .call (F 70) [.tmp 67, .tmp 68], some (66, true)⟩,
             ⟨some 70, .pick (.tmp 66) (.tmp 69) (.const (.bool false)), none⟩,
             ⟨some 71, .move (.tmp 70), none⟩,
             ⟨some 72, .move (.tmp 11), some (71, true)⟩,
             ⟨some 73, .bin .eql (.tmp 72) (.const (.int .i64 2)), some (71, true)⟩,
             ⟨some 74, .pick (.tmp 71) (.tmp 73) (.const (.bool false)), none⟩,
             ⟨some 75, .move (.tmp 74), none⟩,
             ⟨some 76, .move (.tmp 1), some (75, true)⟩,
             ⟨some 77, .call (F 86) [.tmp 76], some (75, true)⟩,
             ⟨some 78, .bin .eql (.tmp 77) (.const (.int .i64 2)), some (75, true)⟩,
             ⟨some 79, .pick (.tmp 75) (.tmp 78) (.const (.bool false)), none⟩,
             ⟨some 80, .move (.tmp 79), none⟩,
             ⟨some 81, .move (.tmp 1), some (80, true)⟩,
             ⟨some 82, .call (F 88) [.tmp 81], some (80, true)⟩,
             ⟨some 83, .bin .eql (.tmp 82) (.const (.int .i64 2)), some (80, true)⟩,
             ⟨some 84, .pick (.tmp 80) (.tmp 83) (.const (.bool false)), none⟩,
             ⟨some 0, .move (.tmp 84), none⟩])
           (.ret))))))))))⟩
/-- A context has these functions. -/
structure HasLaw20 (c : Ctx) : Prop where
  hurdlelaw20_LearnerStays : c.IP (c.F 92) = some (c_hurdlelaw20_LearnerStays c.F c.Ty)
  hurdlelaw20_LearnerQuorum : c.IP (c.F 93) = some (c_hurdlelaw20_LearnerQuorum c.F c.Ty)
  hurdlelaw20_LearnerNone : c.IP (c.F 94) = some (c_hurdlelaw20_LearnerNone c.F c.Ty)
  hurdlelaw20_Few : c.IP (c.F 95) = some (c_hurdlelaw20_Few c.F c.Ty)
  hurdlelaw20_awake : c.IP (c.F 96) = some (c_hurdlelaw20_awake c.F c.Ty)

end Go.Proofs.YtpklgklmjhblpaaI
