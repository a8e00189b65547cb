/- PRINTED by gen.py (this session's own): the intermediate form of some functions, and a context's having them. -/
import Derived.Test.YtkbojgebfndbkaaPartRef01
namespace Go.Proofs.YtkbojgebfndbkaaI
set_option linter.unusedSimpArgs false
set_option linter.unusedVariables false
open Go

/-- hurdle/hurdlelaw03.CodecOnly -/
abbrev n_hurdlelaw03_CodecOnly : Nat := 71
/-- hurdle/hurdlelaw03.CodecWrites -/
abbrev n_hurdlelaw03_CodecWrites : Nat := 72
/-- hurdle/hurdlelaw03.CodecReads -/
abbrev n_hurdlelaw03_CodecReads : Nat := 73
/-- hurdle/hurdlelaw03.CodecBack -/
abbrev n_hurdlelaw03_CodecBack : Nat := 74
/-- hurdle/hurdlelaw03.CodecNone -/
abbrev n_hurdlelaw03_CodecNone : Nat := 75
/-- hurdle/hurdlelaw03.awake -/
abbrev n_hurdlelaw03_awake : Nat := 76
/-- hurdle/hurdlelaw03.Few -/
abbrev n_hurdlelaw03_Few : Nat := 77
/-- hurdle/hurdlelaw03.lay -/
abbrev n_hurdlelaw03_lay : Nat := 78
/-- hurdle/hurdlelaw03.laid -/
abbrev n_hurdlelaw03_laid : Nat := 79
/-- hurdle/hurdlelaw03.same -/
abbrev n_hurdlelaw03_same : Nat := 80
/-- hurdle/hurdlelaw03.CodecOnly -/
def c_hurdlelaw03_CodecOnly (F : Nat → FuncId) (Ty : Nat → TypeId) : IFunc := ⟨51, [.tmp 2],
 .seq (.ops [⟨some 2, .move (.const (.bool false)), none⟩])
  (.seq (.seq (.ops [⟨some 10, .move (.tmp 0), none⟩,
      ⟨some 11, .strLen (.tmp 10), none⟩,
      ⟨some 12, .bin .gtr (.tmp 11) (.const (.int .i64 5000)), none⟩])
    (.cond (.tmp 12)
     (.seq (.ops [⟨some 13, .call (F 76) [], none⟩,
        ⟨some 2, .move (.tmp 13), none⟩])
      (.ret))
     (.skip)))
   (.seq (.ops [⟨some 14, .move (.tmp 0), none⟩,
      ⟨some 15, .call (F 26) [.tmp 14], none⟩,
      ⟨some 3, .move (.tmp 15), none⟩])
    (.seq (.ops [⟨some 16, .move (.tmp 3), none⟩,
       ⟨some 17, .call (F 27) [.tmp 16], none⟩,
       ⟨some 18, .move (.tmp 3), none⟩,
       ⟨some 19, .call (F 28) [.tmp 18], none⟩,
       ⟨some 20, .move (.tmp 3), none⟩,
       ⟨some 21, .call (F 29) [.tmp 20], none⟩,
       ⟨some 4, .move (.tmp 17), none⟩,
       ⟨some 5, .move (.tmp 19), none⟩,
       ⟨some 6, .move (.tmp 21), none⟩])
     (.seq (.seq (.ops [⟨some 22, .move (.tmp 3), none⟩,
         ⟨some 23, .call (F 30) [.tmp 22], none⟩,
         ⟨some 24, .bin .neq (.tmp 23) (.const (.int .i64 0)), none⟩])
       (.cond (.tmp 24)
        (.seq (.ops [⟨some 25, .call (F 76) [], none⟩,
           ⟨some 2, .move (.tmp 25), none⟩])
         (.ret))
        (.skip)))
      (.seq (.ops [⟨some 26, .call (F 31) [.const (.int .i64 65536)], none⟩,
         ⟨some 7, .move (.tmp 26), none⟩])
       (.seq (.ops [⟨some 27, .move (.tmp 7), none⟩,
          ⟨some 28, .move (.tmp 4), none⟩,
          ⟨some 29, .call (F 32) [.tmp 27, .tmp 28], none⟩])
        (.seq (.ops [⟨some 30, .move (.tmp 7), none⟩,
           ⟨some 31, .move (.tmp 5), none⟩,
           ⟨some 32, .call (F 33) [.tmp 30, .tmp 31], none⟩])
         (.seq (.ops [⟨some 33, .move (.tmp 7), none⟩,
            ⟨some 34, .move (.tmp 6), none⟩,
            ⟨some 35, .call (F 34) [.tmp 33, .tmp 34], none⟩])
          (.seq (.ops [⟨some 37, .move (.tmp 7), none⟩,
             ⟨some 38, .call (F 35) [.tmp 37], none⟩,
             ⟨some 36, .move (.tmp 38), none⟩,
             ⟨some 39, .extract (.tmp 36) 0, none⟩,
             ⟨some 40, .extract (.tmp 36) 1, none⟩,
             ⟨some 8, .move (.tmp 39), none⟩,
             ⟨some 9, .move (.tmp 40), none⟩])
           (.seq (.ops [⟨some 41, .move (.tmp 8), none⟩,
              ⟨some 42, .move (.tmp 0), none⟩,
              ⟨some 43, .bin .eql (.tmp 41) (.tmp 42), none⟩,
              ⟨some 44, .move (.tmp 43), none⟩,
              ⟨some 45, .move (.tmp 9), some (44, true)⟩,
              ⟨some 46, .bin .eql (.tmp 45) (.const (.int .i64 0)), some (44, true)⟩,
              ⟨some 47, .pick (.tmp 44) (.tmp 46) (.const (.bool false)), none⟩,
              ⟨some 48, .move (.tmp 47), none⟩,
              ⟨some 49, .call (F 76) [], some (48, true)⟩,
              ⟨some 50, .pick (.tmp 48) (.tmp 49) (.const (.bool false)), none⟩,
              ⟨some 2, .move (.tmp 50), none⟩])
            (.ret)))))))))))⟩
/-- hurdle/hurdlelaw03.CodecWrites -/
def c_hurdlelaw03_CodecWrites (F : Nat → FuncId) (Ty : Nat → TypeId) : IFunc := ⟨59, [.tmp 4],
 .seq (.ops [⟨some 4, .move (.const (.bool false)), none⟩])
  (.seq (.seq (.ops [⟨some 12, .move (.tmp 1), none⟩,
      ⟨some 13, .call (F 77) [.tmp 12], none⟩,
      ⟨some 14, .bin .eql (.tmp 13) (.const (.int .i64 0)), none⟩])
    (.cond (.tmp 14)
     (.seq (.ops [⟨some 15, .call (F 76) [], none⟩,
        ⟨some 4, .move (.tmp 15), none⟩])
      (.ret))
     (.skip)))
   (.seq (.ops [⟨some 16, .move (.tmp 0), none⟩,
      ⟨some 17, .call (F 31) [.tmp 16], none⟩,
      ⟨some 18, .move (.tmp 0), none⟩,
      ⟨some 19, .call (F 54) [.tmp 18], none⟩,
      ⟨some 6, .alloc [.int .i64 0, .int .i64 0, .string ⟨#[]⟩], none⟩,
      ⟨some 5, .move (.tmp 17), none⟩,
      ⟨none, .store 3 (.tmp 6) (.tmp 19), none⟩])
    (.seq (.seq (.ops [⟨some 7, .move (.const (.int .i64 0)), none⟩])
      (.block 0 (.loop (.seq (.seq (.ops [⟨some 20, .move (.tmp 7), none⟩,
            ⟨some 21, .move (.tmp 1), none⟩,
            ⟨some 22, .lenSl (.tmp 21), none⟩,
            ⟨some 23, .bin .lss (.tmp 20) (.tmp 22), none⟩])
          (.cond (.tmp 23)
           (.skip)
           (.exit 0)))
         (.seq (.block 1 (.seq (.ops [⟨some 26, .move (.tmp 5), none⟩,
              ⟨some 27, .move (.tmp 1), none⟩,
              ⟨some 28, .move (.tmp 7), none⟩,
              ⟨some 29, .idxSl 5 (.tmp 27) (.tmp 28), none⟩,
              ⟨some 30, .loadN 5 (.tmp 29), none⟩,
              ⟨some 31, .call (F 78) [.tmp 26, .tmp 30], none⟩])
            (.draw [(⟨some 32, .loadN 3 (.tmp 6), none⟩, []),
              (⟨some 33, .move (.tmp 1), none⟩, []),
              (⟨some 34, .move (.tmp 7), none⟩, []),
              (⟨some 35, .idxSl 5 (.tmp 33) (.tmp 34), none⟩, []),
              (⟨some 36, .loadN 5 (.tmp 35), none⟩, []),
              (⟨some 37, .call (F 79) [.tmp 32, .tmp 36], none⟩, []),
              (⟨none, .store 3 (.tmp 6) (.tmp 37), none⟩, [])])))
          (.ops [⟨some 24, .move (.tmp 7), none⟩,
            ⟨some 25, .bin .add (.tmp 24) (.const (.int .i64 1)), none⟩,
            ⟨some 7, .move (.tmp 25), none⟩]))))))
     (.seq (.ops [⟨some 39, .move (.tmp 5), none⟩,
        ⟨some 40, .call (F 35) [.tmp 39], none⟩,
        ⟨some 38, .move (.tmp 40), none⟩,
        ⟨some 41, .extract (.tmp 38) 0, none⟩,
        ⟨some 42, .extract (.tmp 38) 1, none⟩,
        ⟨some 8, .move (.tmp 41), none⟩,
        ⟨some 9, .move (.tmp 42), none⟩])
      (.seq (.ops [⟨some 44, .loadN 3 (.tmp 6), none⟩,
         ⟨some 45, .call (F 55) [.tmp 44], none⟩,
         ⟨some 43, .move (.tmp 45), none⟩,
         ⟨some 46, .extract (.tmp 43) 0, none⟩,
         ⟨some 47, .extract (.tmp 43) 1, none⟩,
         ⟨some 10, .move (.tmp 46), none⟩,
         ⟨some 11, .move (.tmp 47), none⟩])
       (.seq (.ops [⟨some 48, .move (.tmp 8), none⟩,
          ⟨some 49, .move (.tmp 10), none⟩,
          ⟨some 50, .bin .eql (.tmp 48) (.tmp 49), none⟩,
          ⟨some 51, .move (.tmp 50), none⟩,
          ⟨some 52, .move (.tmp 9), some (51, true)⟩,
          ⟨some 53, .move (.tmp 11), some (51, true)⟩,
          ⟨some 54, .bin .eql (.tmp 52) (.tmp 53), some (51, true)⟩,
          ⟨some 55, .pick (.tmp 51) (.tmp 54) (.const (.bool false)), none⟩,
          ⟨some 56, .move (.tmp 55), none⟩,
          ⟨some 57, .call (F 76) [], some (56, true)⟩,
          ⟨some 58, .pick (.tmp 56) (.tmp 57) (.const (.bool false)), none⟩,
          ⟨some 4, .move (.tmp 58), none⟩])
        (.ret)))))))⟩
/-- hurdle/hurdlelaw03.CodecReads -/
def c_hurdlelaw03_CodecReads (F : Nat → FuncId) (Ty : Nat → TypeId) : IFunc := ⟨58, [.tmp 4],
 .seq (.ops [⟨some 4, .move (.const (.bool false)), none⟩])
  (.seq (.seq (.ops [⟨some 10, .move (.tmp 0), none⟩,
      ⟨some 11, .strLen (.tmp 10), none⟩,
      ⟨some 12, .bin .gtr (.tmp 11) (.const (.int .i64 70000)), none⟩,
      ⟨some 13, .move (.tmp 12), none⟩,
      ⟨some 14, .move (.tmp 1), some (13, false)⟩,
      ⟨some 15, .lenSl (.tmp 14), some (13, false)⟩,
      ⟨some 16, .bin .gtr (.tmp 15) (.const (.int .i64 40)), some (13, false)⟩,
      ⟨some 17, .pick (.tmp 13) (.const (.bool true)) (.tmp 16), none⟩])
    (.cond (.tmp 17)
     (.seq (.ops [⟨some 18, .call (F 76) [], none⟩,
        ⟨some 4, .move (.tmp 18), none⟩])
      (.ret))
     (.skip)))
   (.seq (.ops [⟨some 19, .move (.tmp 0), none⟩,
      ⟨some 20, .call (F 26) [.tmp 19], none⟩,
      ⟨some 21, .move (.tmp 0), none⟩,
      ⟨some 22, .build [.string ⟨#[]⟩, .bool false] [((0, 1), .tmp 21)], none⟩,
      ⟨some 6, .alloc [.string ⟨#[]⟩, .bool false], none⟩,
      ⟨some 5, .move (.tmp 20), none⟩,
      ⟨none, .store 2 (.tmp 6) (.tmp 22), none⟩])
    (.seq (.seq (.ops [⟨some 7, .move (.const (.int .i64 0)), none⟩])
      (.block 0 (.loop (.seq (.seq (.ops [⟨some 23, .move (.tmp 7), none⟩,
            ⟨some 24, .move (.tmp 1), none⟩,
            ⟨some 25, .lenSl (.tmp 24), none⟩,
            ⟨some 26, .bin .lss (.tmp 23) (.tmp 25), none⟩])
          (.cond (.tmp 26)
           (.skip)
           (.exit 0)))
         (.seq (.block 1 (.seq (.draw [(⟨some 30, .move (.tmp 5), none⟩, []),
              (⟨some 31, .loadN 2 (.tmp 6), none⟩, []),
              (⟨some 32, .move (.tmp 1), none⟩, []),
              (⟨some 33, .move (.tmp 7), none⟩, []),
              (⟨some 34, .idxSl 1 (.tmp 32) (.tmp 33), none⟩, []),
              (⟨some 35, .load1 (.tmp 34), none⟩, []),
              (⟨some 8, .alloc [.string ⟨#[]⟩, .bool false], none⟩, []),
              (⟨some 36, .call (F 80) [.tmp 30, .tmp 31, .tmp 35], none⟩, []),
              (⟨some 29, .move (.tmp 36), none⟩, []),
              (⟨some 37, .extract (.tmp 29) 0, none⟩, []),
              (⟨some 38, .extract (.tmp 29) 1, none⟩, []),
              (⟨none, .store 2 (.tmp 8) (.tmp 37), none⟩, []),
              (⟨some 9, .move (.tmp 38), none⟩, [])])
            (.seq (.ops [⟨some 39, .loadN 2 (.tmp 8), none⟩,
               ⟨none, .store 2 (.tmp 6) (.tmp 39), none⟩])
             (.seq (.draw [(⟨some 40, .move (.tmp 9), none⟩, []),
                (⟨some 41, .un .not (.tmp 40), none⟩, []),
                (⟨some 42, .move (.tmp 41), none⟩, []),
                (⟨some 43, .move (.tmp 5), some (42, false)⟩, []),
                (⟨some 45, .fieldAddr 0 (.tmp 6), some (42, false)⟩, []),
                (⟨some 46, .load1 (.tmp 45), some (42, false)⟩, []),
                (⟨some 47, .strLen (.tmp 46), some (42, false)⟩, []),
                (⟨some 44, .call (F 36) [.tmp 43], some (42, false)⟩, [⟨some 46, .load1 (.tmp 45), some (42, false)⟩]),
                (⟨some 48, .bin .neq (.tmp 44) (.tmp 47), some (42, false)⟩, []),
                (⟨some 49, .pick (.tmp 42) (.const (.bool true)) (.tmp 48), none⟩, [])])
              (.cond (.tmp 49)
               (.seq (.ops [⟨some 4, .move (.const (.bool false)), none⟩])
                (.ret))
               (.skip))))))
          (.ops [⟨some 27, .move (.tmp 7), none⟩,
            ⟨some 28, .bin .add (.tmp 27) (.const (.int .i64 1)), none⟩,
            ⟨some 7, .move (.tmp 28), none⟩]))))))
     (.seq (.draw [(⟨some 50, .move (.tmp 5), none⟩, []),
        (⟨some 52, .loadN 2 (.tmp 6), none⟩, []),
        (⟨some 51, .call (F 30) [.tmp 50], none⟩, [⟨some 52, .loadN 2 (.tmp 6), none⟩]),
        (⟨some 53, .call (F 56) [.tmp 52], none⟩, []),
        (⟨some 54, .bin .eql (.tmp 51) (.tmp 53), none⟩, []),
        (⟨some 55, .move (.tmp 54), none⟩, []),
        (⟨some 56, .call (F 76) [], some (55, true)⟩, []),
        (⟨some 57, .pick (.tmp 55) (.tmp 56) (.const (.bool false)), none⟩, []),
        (⟨some 4, .move (.tmp 57), none⟩, [])])
      (.ret)))))⟩
/-- hurdle/hurdlelaw03.CodecBack -/
def c_hurdlelaw03_CodecBack (F : Nat → FuncId) (Ty : Nat → TypeId) : IFunc := ⟨100, [.tmp 2],
 .seq (.ops [⟨some 2, .move (.const (.bool false)), none⟩])
  (.seq (.seq (.ops [⟨some 11, .move (.tmp 0), none⟩,
      ⟨some 12, .call (F 77) [.tmp 11], none⟩,
      ⟨some 13, .bin .eql (.tmp 12) (.const (.int .i64 0)), none⟩])
    (.cond (.tmp 13)
     (.seq (.ops [⟨some 14, .call (F 76) [], none⟩,
        ⟨some 2, .move (.tmp 14), none⟩])
      (.ret))
     (.skip)))
   (.seq (.ops [⟨some 15, .call (F 31) [.const (.int .i64 65536)], none⟩,
      ⟨some 3, .move (.tmp 15), none⟩])
    (.seq (.seq (.ops [⟨some 4, .move (.const (.int .i64 0)), none⟩])
      (.block 0 (.loop (.seq (.seq (.ops [⟨some 16, .move (.tmp 4), none⟩,
            ⟨some 17, .move (.tmp 0), none⟩,
            ⟨some 18, .lenSl (.tmp 17), none⟩,
            ⟨some 19, .bin .lss (.tmp 16) (.tmp 18), none⟩])
          (.cond (.tmp 19)
           (.skip)
           (.exit 0)))
         (.seq (.block 1 (.ops [⟨some 22, .move (.tmp 3), none⟩,
             ⟨some 23, .move (.tmp 0), none⟩,
             ⟨some 24, .move (.tmp 4), none⟩,
             ⟨some 25, .idxSl 5 (.tmp 23) (.tmp 24), none⟩,
             ⟨some 26, .loadN 5 (.tmp 25), none⟩,
             ⟨some 27, .call (F 78) [.tmp 22, .tmp 26], none⟩]))
          (.ops [⟨some 20, .move (.tmp 4), none⟩,
            ⟨some 21, .bin .add (.tmp 20) (.const (.int .i64 1)), none⟩,
            ⟨some 4, .move (.tmp 21), none⟩]))))))
     (.seq (.ops [⟨some 29, .move (.tmp 3), none⟩,
        ⟨some 30, .call (F 35) [.tmp 29], none⟩,
        ⟨some 28, .move (.tmp 30), none⟩,
        ⟨some 31, .extract (.tmp 28) 0, none⟩,
        ⟨some 32, .extract (.tmp 28) 1, none⟩,
        ⟨some 5, .move (.tmp 31), none⟩,
        ⟨some 6, .move (.tmp 32), none⟩])
      (.seq (.seq (.ops [⟨some 33, .move (.tmp 6), none⟩,
          ⟨some 34, .bin .neq (.tmp 33) (.const (.int .i64 0)), none⟩])
        (.cond (.tmp 34)
         (.seq (.ops [⟨some 35, .move (.tmp 5), none⟩,
            ⟨some 36, .bin .eql (.tmp 35) (.const (.string ⟨#[]⟩)), none⟩,
            ⟨some 37, .move (.tmp 36), none⟩,
            ⟨some 38, .call (F 76) [], some (37, true)⟩,
            ⟨some 39, .pick (.tmp 37) (.tmp 38) (.const (.bool false)), none⟩,
            ⟨some 2, .move (.tmp 39), none⟩])
          (.ret))
         (.skip)))
       (.seq (.ops [⟨some 40, .move (.tmp 5), none⟩,
          ⟨some 41, .call (F 26) [.tmp 40], none⟩,
          ⟨some 7, .move (.tmp 41), none⟩])
        (.seq (.seq (.ops [⟨some 8, .move (.const (.int .i64 0)), none⟩])
          (.block 2 (.loop (.seq (.seq (.ops [⟨some 42, .move (.tmp 8), none⟩,
                ⟨some 43, .move (.tmp 0), none⟩,
                ⟨some 44, .lenSl (.tmp 43), none⟩,
                ⟨some 45, .bin .lss (.tmp 42) (.tmp 44), none⟩])
              (.cond (.tmp 45)
               (.skip)
               (.exit 2)))
             (.seq (.block 3 (.seq (.ops [⟨some 9, .move (.const (.bool true)), none⟩])
                (.seq (.seq (.ops [⟨some 48, .move (.tmp 0), none⟩,
                    ⟨some 49, .move (.tmp 8), none⟩,
                    ⟨some 50, .idxSl 5 (.tmp 48) (.tmp 49), none⟩,
                    ⟨some 51, .loadN 5 (.tmp 50), none⟩,
                    ⟨some 10, .alloc [.int .i64 0, .int .i64 0, .string ⟨#[]⟩, .slice none 0 0, .slice none 0 0], none⟩,
                    ⟨none, .store 5 (.tmp 10) (.tmp 51), none⟩])
                  (.seq (.ops [⟨some 52, .fieldAddr 0 (.tmp 10), none⟩,
                     ⟨some 53, .load1 (.tmp 52), none⟩])
                   (.block 4 (.seq (.ops [⟨some 60, .bin .eql (.tmp 53) (.const (.int .i64 1)), none⟩,
                       ⟨some 59, .move (.tmp 60), none⟩])
                     (.cond (.tmp 59)
                      (.draw [(⟨some 61, .move (.tmp 7), none⟩, []),
                        (⟨some 63, .fieldAddr 1 (.tmp 10), none⟩, []),
                        (⟨some 64, .load1 (.tmp 63), none⟩, []),
                        (⟨some 62, .call (F 37) [.tmp 61], none⟩, [⟨some 64, .load1 (.tmp 63), none⟩]),
                        (⟨some 65, .bin .eql (.tmp 62) (.tmp 64), none⟩, []),
                        (⟨some 9, .move (.tmp 65), none⟩, [])])
                      (.seq (.ops [⟨some 67, .bin .eql (.tmp 53) (.const (.int .i64 2)), none⟩,
                         ⟨some 66, .move (.tmp 67), none⟩])
                       (.cond (.tmp 66)
                        (.draw [(⟨some 68, .move (.tmp 7), none⟩, []),
                          (⟨some 70, .fieldAddr 2 (.tmp 10), none⟩, []),
                          (⟨some 71, .load1 (.tmp 70), none⟩, []),
                          (⟨some 69, .call (F 28) [.tmp 68], none⟩, [⟨some 71, .load1 (.tmp 70), none⟩]),
                          (⟨some 72, .bin .eql (.tmp 69) (.tmp 71), none⟩, []),
                          (⟨some 9, .move (.tmp 72), none⟩, [])])
                        (.seq (.ops [⟨some 74, .bin .eql (.tmp 53) (.const (.int .i64 3)), none⟩,
                           ⟨some 73, .move (.tmp 74), none⟩])
                         (.cond (.tmp 73)
                          (.draw [(⟨some 75, .move (.tmp 7), none⟩, []),
                            (⟨some 77, .fieldAddr 3 (.tmp 10), none⟩, []),
                            (⟨some 78, .load1 (.tmp 77), none⟩, []),
                            (⟨some 76, .call (F 27) [.tmp 75], none⟩, [⟨some 78, .load1 (.tmp 77), none⟩]),
                            (⟨some 79, .call (F 69) [.tmp 76, .tmp 78], none⟩, []),
                            (⟨some 9, .move (.tmp 79), none⟩, [])])
                          (.seq (.ops [⟨some 81, .bin .eql (.tmp 53) (.const (.int .i64 4)), none⟩,
                             ⟨some 80, .move (.tmp 81), none⟩])
                           (.cond (.tmp 80)
                            (.draw [(⟨some 82, .move (.tmp 7), none⟩, []),
                              (⟨some 84, .fieldAddr 4 (.tmp 10), none⟩, []),
                              (⟨some 85, .load1 (.tmp 84), none⟩, []),
                              (⟨some 83, .call (F 38) [.tmp 82], none⟩, [⟨some 85, .load1 (.tmp 84), none⟩]),
                              (⟨some 86, .call (F 70) [.tmp 83, .tmp 85], none⟩, []),
                              (⟨some 9, .move (.tmp 86), none⟩, [])])
                            (.draw [(⟨some 54, .move (.tmp 7), none⟩, []),
                              (⟨some 56, .fieldAddr 1 (.tmp 10), none⟩, []),
                              (⟨some 57, .load1 (.tmp 56), none⟩, []),
                              (⟨some 55, .call (F 29) [.tmp 54], none⟩, [⟨some 57, .load1 (.tmp 56), none⟩]),
                              (⟨some 58, .bin .eql (.tmp 55) (.tmp 57), none⟩, []),
                              (⟨some 9, .move (.tmp 58), none⟩, [])]))))))))))))
                 (.seq (.ops [⟨some 87, .move (.tmp 9), none⟩,
                    ⟨some 88, .un .not (.tmp 87), none⟩])
                  (.cond (.tmp 88)
                   (.seq (.ops [⟨some 2, .move (.const (.bool false)), none⟩])
                    (.ret))
                   (.skip))))))
              (.ops [⟨some 46, .move (.tmp 8), none⟩,
                ⟨some 47, .bin .add (.tmp 46) (.const (.int .i64 1)), none⟩,
                ⟨some 8, .move (.tmp 47), none⟩]))))))
         (.seq (.ops [⟨some 89, .move (.tmp 7), none⟩,
            ⟨some 90, .call (F 36) [.tmp 89], none⟩,
            ⟨some 91, .bin .eql (.tmp 90) (.const (.int .i64 0)), none⟩,
            ⟨some 92, .move (.tmp 91), none⟩,
            ⟨some 93, .move (.tmp 7), some (92, true)⟩,
            ⟨some 94, .call (F 30) [.tmp 93], some (92, true)⟩,
            ⟨some 95, .bin .eql (.tmp 94) (.const (.int .i64 0)), some (92, true)⟩,
            ⟨some 96, .pick (.tmp 92) (.tmp 95) (.const (.bool false)), none⟩,
            ⟨some 97, .move (.tmp 96), none⟩,
            ⟨some 98, .call (F 76) [], some (97, true)⟩,
            ⟨some 99, .pick (.tmp 97) (.tmp 98) (.const (.bool false)), none⟩,
            ⟨some 2, .move (.tmp 99), none⟩])
          (.ret)))))))))⟩
/-- hurdle/hurdlelaw03.CodecNone -/
def c_hurdlelaw03_CodecNone (F : Nat → FuncId) (Ty : Nat → TypeId) : IFunc := ⟨66, [.tmp 2],
 .seq (.ops [⟨some 1, .box (.tmp 0), none⟩,
    ⟨some 2, .move (.const (.bool false)), none⟩])
  (.seq (.seq (.ops [⟨some 7, .loadN 5 (.tmp 1), none⟩,
      ⟨some 8, .buildSlice 1 [.int .i64 0, .int .i64 0, .string ⟨#[]⟩, .slice none 0 0, .slice none 0 0] [((0, 5), .tmp 7)], none⟩,
      ⟨some 9, .call (F 77) [.tmp 8], none⟩,
      ⟨some 10, .bin .eql (.tmp 9) (.const (.int .i64 0)), none⟩])
    (.cond (.tmp 10)
     (.seq (.ops [⟨some 11, .call (F 76) [], none⟩,
        ⟨some 2, .move (.tmp 11), none⟩])
      (.ret))
     (.skip)))
   (.seq (.ops [⟨some 3, .move (.const (.pointer none)), none⟩])
    (.seq (.ops [⟨some 4, .move (.const (.pointer none)), none⟩])
     (.seq (.ops [⟨some 12, .move (.tmp 3), none⟩,
        ⟨some 13, .loadN 5 (.tmp 1), none⟩,
        ⟨some 14, .call (F 78) [.tmp 12, .tmp 13], none⟩])
      (.seq (.ops [⟨some 16, .move (.tmp 3), none⟩,
         ⟨some 17, .call (F 35) [.tmp 16], none⟩,
         ⟨some 15, .move (.tmp 17), none⟩,
         ⟨some 18, .extract (.tmp 15) 0, none⟩,
         ⟨some 19, .extract (.tmp 15) 1, none⟩,
         ⟨some 5, .move (.tmp 18), none⟩,
         ⟨some 6, .move (.tmp 19), none⟩])
       (.seq (.ops [⟨some 20, .move (.tmp 5), none⟩,
          ⟨some 21, .bin .eql (.tmp 20) (.const (.string ⟨#[]⟩)), none⟩,
          ⟨some 22, .move (.tmp 21), none⟩,
          ⟨some 23, .move (.tmp 6), some (22, true)⟩,
          ⟨some 24, .bin .eql (.tmp 23) (.const (.int .i64 1)), some (22, true)⟩,
          ⟨some 25, .pick (.tmp 22) (.tmp 24) (.const (.bool false)), none⟩,
          ⟨some 26, .move (.tmp 25), none⟩,
          ⟨some 27, .move (.tmp 4), some (26, true)⟩,
          ⟨some 28, .call (F 29) [.tmp 27], some (26, true)⟩,
          ⟨some 29, .bin .eql (.tmp 28) (.const (.int .i64 0)), some (26, true)⟩,
          ⟨some 30, .pick (.tmp 26) (.tmp 29) (.const (.bool false)), none⟩,
          ⟨some 31, .move (.tmp 30), none⟩,
          ⟨some 32, .move (.tmp 4), some (31, true)⟩,
          ⟨some 33, .call (F 37) [.tmp 32], some (31, true)⟩,
          ⟨some 34, .bin .eql (.tmp 33) (.const (.int .i64 0)), some (31, true)⟩,
          ⟨some 35, .pick (.tmp 31) (.tmp 34) (.const (.bool false)), none⟩,
          ⟨some 36, .move (.tmp 35), none⟩,
          ⟨some 37, .move (.tmp 4), some (36, true)⟩,
          ⟨some 38, .call (F 28) [.tmp 37], some (36, true)⟩,
          ⟨some 39, .bin .eql (.tmp 38) (.const (.string ⟨#[]⟩)), some (36, true)⟩,
          ⟨some 40, .pick (.tmp 36) (.tmp 39) (.const (.bool false)), none⟩,
          ⟨some 41, .move (.tmp 40), none⟩,
          ⟨some 42, .move (.tmp 4), some (41, true)⟩,
          ⟨some 43, .call (F 27) [.tmp 42], some (41, true)⟩,
          ⟨some 44, .lenSl (.tmp 43), some (41, true)⟩,
          ⟨some 45, .bin .eql (.tmp 44) (.const (.int .i64 0)), some (41, true)⟩,
          ⟨some 46, .pick (.tmp 41) (.tmp 45) (.const (.bool false)), none⟩,
          ⟨some 47, .move (.tmp 46), none⟩,
          ⟨some 48, .move (.tmp 4), some (47, true)⟩,
          ⟨some 49, .call (F 38) [.tmp 48], some (47, true)⟩,
          ⟨some 50, .lenSl (.tmp 49), some (47, true)⟩,
          ⟨some 51, .bin .eql (.tmp 50) (.const (.int .i64 0)), some (47, true)⟩,
          ⟨some 52, .pick (.tmp 47) (.tmp 51) (.const (.bool false)), none⟩,
          ⟨some 53, .move (.tmp 52), none⟩,
          ⟨some 54, .move (.tmp 4), some (53, true)⟩,
          ⟨some 55, .call (F 36) [.tmp 54], some (53, true)⟩,
          ⟨some 56, .bin .eql (.tmp 55) (.const (.int .i64 0)), some (53, true)⟩,
          ⟨some 57, .pick (.tmp 53) (.tmp 56) (.const (.bool false)), none⟩,
          ⟨some 58, .move (.tmp 57), none⟩,
          ⟨some 59, .move (.tmp 4), some (58, true)⟩,
          ⟨some 60, .call (F 30) [.tmp 59], some (58, true)⟩,
          ⟨some 61, .bin .eql (.tmp 60) (.const (.int .i64 1)), some (58, true)⟩,
          ⟨some 62, .pick (.tmp 58) (.tmp 61) (.const (.bool false)), none⟩,
          ⟨some 63, .move (.tmp 62), none⟩,
          ⟨some 64, .call (F 76) [], some (63, true)⟩,
          ⟨some 65, .pick (.tmp 63) (.tmp 64) (.const (.bool false)), none⟩,
          ⟨some 2, .move (.tmp 65), none⟩])
        (.ret)))))))⟩
/-- hurdle/hurdlelaw03.awake -/
def c_hurdlelaw03_awake (F : Nat → FuncId) (Ty : Nat → TypeId) : IFunc := ⟨80, [.tmp 0],
 .seq (.ops [⟨some 0, .move (.const (.bool false)), none⟩])
  (.seq (.ops [⟨some 11, .call (F 31) [.const (.int .i64 100)], none⟩,
     ⟨some 1, .move (.tmp 11), none⟩])
   (.seq (.seq (.ops [⟨some 12, .move (.tmp 1), none⟩,
       ⟨some 13, .eqNil 0 false (.tmp 12), none⟩])
     (.cond (.tmp 13)
      (.seq (.ops [⟨some 0, .move (.const (.bool false)), none⟩])
       (.ret))
      (.skip)))
    (.seq (.ops [⟨some 14, .move (.tmp 1), none⟩,
       ⟨some 15, .call (F 34) [.tmp 14, .const (.int .i64 (-1))], none⟩])
     (.seq (.ops [⟨some 16, .move (.tmp 1), none⟩,
        ⟨some 17, .call (F 34) [.tmp 16, .const (.int .i64 64)], none⟩])
      (.seq (.ops [⟨some 18, .move (.tmp 1), none⟩,
         ⟨some 19, .call (F 33) [.tmp 18, .const (.string ⟨#[97, 98]⟩)], none⟩])
       (.seq (.ops [⟨some 20, .move (.tmp 1), none⟩,
          ⟨some 21, .buildSlice 1 [.int .i64 0] [((0, 1), .const (.int .i64 3))], none⟩,
          ⟨some 22, .call (F 32) [.tmp 20, .tmp 21], none⟩])
        (.seq (.ops [⟨some 24, .move (.tmp 1), none⟩,
           ⟨some 25, .call (F 35) [.tmp 24], none⟩,
           ⟨some 23, .move (.tmp 25), none⟩,
           ⟨some 26, .extract (.tmp 23) 0, none⟩,
           ⟨some 27, .extract (.tmp 23) 1, none⟩,
           ⟨some 2, .move (.tmp 26), none⟩,
           ⟨some 3, .move (.tmp 27), none⟩])
         (.seq (.ops [⟨some 28, .move (.tmp 2), none⟩,
            ⟨some 29, .call (F 26) [.tmp 28], none⟩,
            ⟨some 4, .move (.tmp 29), none⟩])
          (.seq (.seq (.ops [⟨some 30, .move (.tmp 4), none⟩,
              ⟨some 31, .eqNil 0 false (.tmp 30), none⟩])
            (.cond (.tmp 31)
             (.seq (.ops [⟨some 0, .move (.const (.bool false)), none⟩])
              (.ret))
             (.skip)))
           (.seq (.ops [⟨some 32, .move (.tmp 4), none⟩,
              ⟨some 33, .call (F 29) [.tmp 32], none⟩,
              ⟨some 34, .move (.tmp 4), none⟩,
              ⟨some 35, .call (F 29) [.tmp 34], none⟩,
              ⟨some 36, .move (.tmp 4), none⟩,
              ⟨some 37, .call (F 28) [.tmp 36], none⟩,
              ⟨some 38, .move (.tmp 4), none⟩,
              ⟨some 39, .call (F 27) [.tmp 38], none⟩,
              ⟨some 5, .move (.tmp 33), none⟩,
              ⟨some 6, .move (.tmp 35), none⟩,
              ⟨some 7, .move (.tmp 37), none⟩,
              ⟨some 8, .move (.tmp 39), none⟩])
            (.seq (.ops [⟨some 40, .call (F 26) [.const (.string ⟨#[128]⟩)], none⟩,
               ⟨some 9, .move (.tmp 40), none⟩])
             (.seq (.ops [⟨some 41, .move (.tmp 9), none⟩,
                ⟨some 42, .call (F 29) [.tmp 41], none⟩,
                ⟨some 10, .move (.tmp 42), none⟩])
              (.seq (.ops [⟨some 43, .move (.tmp 2), none⟩,
                 ⟨some 44, .bin .eql (.tmp 43) (.const (.string ⟨#[1, 128, 1, 4, 97, 98, 2, 6]⟩)), none⟩,
                 ⟨some 45, .move (.tmp 44), none⟩,
                 ⟨some 46, .move (.tmp 3), some (45, true)⟩,
                 ⟨some 47, .bin .eql (.tmp 46) (.const (.int .i64 0)), some (45, true)⟩,
                 ⟨some 48, .pick (.tmp 45) (.tmp 47) (.const (.bool false)), none⟩,
                 ⟨some 49, .move (.tmp 48), none⟩,
                 ⟨some 50, .move (.tmp 5), some (49, true)⟩,
                 ⟨some 51, .bin .eql (.tmp 50) (.const (.int .i64 (-1))), some (49, true)⟩,
                 ⟨some 52, .pick (.tmp 49) (.tmp 51) (.const (.bool false)), none⟩,
                 ⟨some 53, .move (.tmp 52), none⟩,
                 ⟨some 54, .move (.tmp 6), some (53, true)⟩,
                 ⟨some 55, .bin .eql (.tmp 54) (.const (.int .i64 64)), some (53, true)⟩,
                 ⟨some 56, .pick (.tmp 53) (.tmp 55) (.const (.bool false)), none⟩,
                 ⟨some 57, .move (.tmp 56), none⟩,
                 ⟨some 58, .move (.tmp 7), some (57, true)⟩,
                 ⟨some 59, .bin .eql (.tmp 58) (.const (.string ⟨#[97, 98]⟩)), some (57, true)⟩,
                 ⟨some 60, .pick (.tmp 57) (.tmp 59) (.const (.bool false)), none⟩,
                 ⟨some 61, .move (.tmp 60), none⟩,
                 ⟨some 62, .move (.tmp 8), some (61, true)⟩,
                 ⟨some 63, .buildSlice 1 [.int .i64 0] [((0, 1), .const (.int .i64 3))], some (61, true)⟩,
                 ⟨some 64, .call (F 69) [.tmp 62, .tmp 63], some (61, true)⟩,
                 ⟨some 65, .pick (.tmp 61) (.tmp 64) (.const (.bool false)), none⟩,
                 ⟨some 66, .move (.tmp 65), none⟩,
                 ⟨some 67, .move (.tmp 4), some (66, true)⟩,
                 ⟨some 68, .call (F 30) [.tmp 67], some (66, true)⟩,
                 ⟨some 69, .bin .eql (.tmp 68) (.const (.int .i64 0)), some (66, true)⟩,
                 ⟨some 70, .pick (.tmp 66) (.tmp 69) (.const (.bool false)), none⟩,
                 ⟨some 71, .move (.tmp 70), none⟩,
                 ⟨some 72, .move (.tmp 10), some (71, true)⟩,
                 ⟨some 73, .bin .eql (.tmp 72) (.const (.int .i64 0)), some (71, true)⟩,
                 ⟨some 74, .pick (.tmp 71) (.tmp 73) (.const (.bool false)), none⟩,
                 ⟨some 75, .move (.tmp 74), none⟩,
                 ⟨some 76, .move (.tmp 9), some (75, true)⟩,
                 ⟨some 77, .call (F 30) [.tmp 76], some (75, true)⟩,
                 ⟨some 78, .bin .eql (.tmp 77) (.const (.int .i64 3)), some (75, true)⟩,
                 ⟨some 79, .pick (.tmp 75) (.tmp 78) (.const (.bool false)), none⟩,
                 ⟨some 0, .move (.tmp 79), none⟩])
               (.ret))))))))))))))⟩
/-- hurdle/hurdlelaw03.Few -/
def c_hurdlelaw03_Few (F : Nat → FuncId) (Ty : Nat → TypeId) : IFunc := ⟨59, [.tmp 2],
 .seq (.ops [⟨some 2, .move (.const (.int .i64 0)), none⟩])
  (.seq (.seq (.ops [⟨some 5, .move (.tmp 0), none⟩,
      ⟨some 6, .lenSl (.tmp 5), none⟩,
      ⟨some 7, .bin .gtr (.tmp 6) (.const (.int .i64 30)), none⟩])
    (.cond (.tmp 7)
     (.seq (.ops [⟨some 2, .move (.const (.int .i64 0)), none⟩])
      (.ret))
     (.skip)))
   (.seq (.seq (.ops [⟨some 3, .move (.const (.int .i64 0)), none⟩])
     (.block 0 (.loop (.seq (.seq (.ops [⟨some 8, .move (.tmp 3), none⟩,
           ⟨some 9, .move (.tmp 0), none⟩,
           ⟨some 10, .lenSl (.tmp 9), none⟩,
           ⟨some 11, .bin .lss (.tmp 8) (.tmp 10), none⟩])
         (.cond (.tmp 11)
          (.skip)
          (.exit 0)))
        (.seq (.block 1 (.seq (.seq (.ops [⟨some 14, .move (.tmp 0), none⟩,
              ⟨some 15, .move (.tmp 3), none⟩,
              ⟨some 16, .idxSl 5 (.tmp 14) (.tmp 15), none⟩,
              ⟨some 17, .fieldAddr 2 (.tmp 16), none⟩,
              ⟨some 18, .load1 (.tmp 17), none⟩,
              ⟨some 19, .strLen (.tmp 18), none⟩,
              ⟨some 20, .bin .gtr (.tmp 19) (.const (.int .i64 70000)), none⟩,
              ⟨some 21, .move (.tmp 20), none⟩,
              ⟨some 22, .move (.tmp 0), some (21, false)⟩,
              ⟨some 23, .move (.tmp 3), some (21, false)⟩,
              ⟨some 24, .idxSl 5 (.tmp 22) (.tmp 23), some (21, false)⟩,
              ⟨some 25, .fieldAddr 3 (.tmp 24), some (21, false)⟩,
              ⟨some 26, .load1 (.tmp 25), some (21, false)⟩,
              ⟨some 27, .lenSl (.tmp 26), some (21, false)⟩,
              ⟨some 28, .bin .gtr (.tmp 27) (.const (.int .i64 300)), some (21, false)⟩,
              ⟨some 29, .pick (.tmp 21) (.const (.bool true)) (.tmp 28), none⟩,
              ⟨some 30, .move (.tmp 29), none⟩,
              ⟨some 31, .move (.tmp 0), some (30, false)⟩,
              ⟨some 32, .move (.tmp 3), some (30, false)⟩,
              ⟨some 33, .idxSl 5 (.tmp 31) (.tmp 32), some (30, false)⟩,
              ⟨some 34, .fieldAddr 4 (.tmp 33), some (30, false)⟩,
              ⟨some 35, .load1 (.tmp 34), some (30, false)⟩,
              ⟨some 36, .lenSl (.tmp 35), some (30, false)⟩,
              ⟨some 37, .bin .gtr (.tmp 36) (.const (.int .i64 60)), some (30, false)⟩,
              ⟨some 38, .pick (.tmp 30) (.const (.bool true)) (.tmp 37), none⟩])
            (.cond (.tmp 38)
             (.seq (.ops [⟨some 2, .move (.const (.int .i64 0)), none⟩])
              (.ret))
             (.skip)))
           (.seq (.ops [⟨some 4, .move (.const (.int .i64 0)), none⟩])
            (.block 2 (.loop (.seq (.seq (.ops [⟨some 39, .move (.tmp 4), none⟩,
                  ⟨some 40, .move (.tmp 0), none⟩,
                  ⟨some 41, .move (.tmp 3), none⟩,
                  ⟨some 42, .idxSl 5 (.tmp 40) (.tmp 41), none⟩,
                  ⟨some 43, .fieldAddr 4 (.tmp 42), none⟩,
                  ⟨some 44, .load1 (.tmp 43), none⟩,
                  ⟨some 45, .lenSl (.tmp 44), none⟩,
                  ⟨some 46, .bin .lss (.tmp 39) (.tmp 45), none⟩])
                (.cond (.tmp 46)
                 (.skip)
                 (.exit 2)))
               (.seq (.block 3 (.seq (.ops [⟨some 49, .move (.tmp 0), none⟩,
                    ⟨some 50, .move (.tmp 3), none⟩,
                    ⟨some 51, .idxSl 5 (.tmp 49) (.tmp 50), none⟩,
                    ⟨some 52, .fieldAddr 4 (.tmp 51), none⟩,
                    ⟨some 53, .load1 (.tmp 52), none⟩,
                    ⟨some 54, .move (.tmp 4), none⟩,
                    ⟨some 55, .idxSl 1 (.tmp 53) (.tmp 54), none⟩,
                    ⟨some 56, .load1 (.tmp 55), none⟩,
                    ⟨some 57, .strLen (.tmp 56), none⟩,
                    ⟨some 58, .bin .gtr (.tmp 57) (.const (.int .i64 5000)), none⟩])
                  (.cond (.tmp 58)
                   (.seq (.ops [⟨some 2, .move (.const (.int .i64 0)), none⟩])
                    (.ret))
                   (.skip))))
                (.ops [⟨some 47, .move (.tmp 4), none⟩,
                  ⟨some 48, .bin .add (.tmp 47) (.const (.int .i64 1)), none⟩,
                  ⟨some 4, .move (.tmp 48), none⟩]))))))))
         (.ops [⟨some 12, .move (.tmp 3), none⟩,
           ⟨some 13, .bin .add (.tmp 12) (.const (.int .i64 1)), none⟩,
           ⟨some 3, .move (.tmp 13), none⟩]))))))
    (.seq (.ops [⟨some 2, .move (.const (.int .i64 1)), none⟩])
     (.ret))))⟩
/-- hurdle/hurdlelaw03.lay -/
def c_hurdlelaw03_lay (F : Nat → FuncId) (Ty : Nat → TypeId) : IFunc := ⟨34, [],
 .seq (.ops [⟨some 3, .box (.tmp 1), none⟩])
  (.seq (.ops [⟨some 4, .fieldAddr 0 (.tmp 3), none⟩,
     ⟨some 5, .load1 (.tmp 4), none⟩])
   (.block 0 (.seq (.ops [⟨some 11, .bin .eql (.tmp 5) (.const (.int .i64 1)), none⟩,
       ⟨some 10, .move (.tmp 11), none⟩])
     (.cond (.tmp 10)
      (.ops [⟨some 12, .move (.tmp 0), none⟩,
        ⟨some 13, .fieldAddr 1 (.tmp 3), none⟩,
        ⟨some 14, .load1 (.tmp 13), none⟩,
        ⟨some 15, .call (F 49) [.tmp 12, .tmp 14], none⟩])
      (.seq (.ops [⟨some 17, .bin .eql (.tmp 5) (.const (.int .i64 2)), none⟩,
         ⟨some 16, .move (.tmp 17), none⟩])
       (.cond (.tmp 16)
        (.ops [⟨some 18, .move (.tmp 0), none⟩,
          ⟨some 19, .fieldAddr 2 (.tmp 3), none⟩,
          ⟨some 20, .load1 (.tmp 19), none⟩,
          ⟨some 21, .call (F 33) [.tmp 18, .tmp 20], none⟩])
        (.seq (.ops [⟨some 23, .bin .eql (.tmp 5) (.const (.int .i64 3)), none⟩,
           ⟨some 22, .move (.tmp 23), none⟩])
         (.cond (.tmp 22)
          (.ops [⟨some 24, .move (.tmp 0), none⟩,
            ⟨some 25, .fieldAddr 3 (.tmp 3), none⟩,
            ⟨some 26, .load1 (.tmp 25), none⟩,
            ⟨some 27, .call (F 32) [.tmp 24, .tmp 26], none⟩])
          (.seq (.ops [⟨some 29, .bin .eql (.tmp 5) (.const (.int .i64 4)), none⟩,
             ⟨some 28, .move (.tmp 29), none⟩])
           (.cond (.tmp 28)
            (.ops [⟨some 30, .move (.tmp 0), none⟩,
              ⟨some 31, .fieldAddr 4 (.tmp 3), none⟩,
              ⟨some 32, .load1 (.tmp 31), none⟩,
              ⟨some 33, .call (F 50) [.tmp 30, .tmp 32], none⟩])
            (.ops [⟨some 6, .move (.tmp 0), none⟩,
              ⟨some 7, .fieldAddr 1 (.tmp 3), none⟩,
              ⟨some 8, .load1 (.tmp 7), none⟩,
              ⟨some 9, .call (F 34) [.tmp 6, .tmp 8], none⟩])))))))))))⟩
/-- hurdle/hurdlelaw03.laid -/
def c_hurdlelaw03_laid (F : Nat → FuncId) (Ty : Nat → TypeId) : IFunc := ⟨39, [.cellN 4 3],
 .seq (.ops [⟨some 2, .box (.tmp 0), none⟩,
    ⟨some 3, .box (.tmp 1), none⟩,
    ⟨some 4, .alloc [.int .i64 0, .int .i64 0, .string ⟨#[]⟩], none⟩])
  (.seq (.seq (.ops [⟨some 5, .fieldAddr 0 (.tmp 3), none⟩,
      ⟨some 6, .load1 (.tmp 5), none⟩])
    (.block 0 (.seq (.ops [⟨some 8, .bin .eql (.tmp 6) (.const (.int .i64 1)), none⟩,
        ⟨some 7, .move (.tmp 8), none⟩])
      (.cond (.tmp 7)
       (.seq (.ops [⟨some 9, .loadN 3 (.tmp 2), none⟩,
          ⟨some 10, .fieldAddr 1 (.tmp 3), none⟩,
          ⟨some 11, .load1 (.tmp 10), none⟩,
          ⟨some 12, .call (F 57) [.tmp 9, .tmp 11], none⟩,
          ⟨none, .store 3 (.tmp 4) (.tmp 12), none⟩])
        (.ret))
       (.seq (.ops [⟨some 14, .bin .eql (.tmp 6) (.const (.int .i64 2)), none⟩,
          ⟨some 13, .move (.tmp 14), none⟩])
        (.cond (.tmp 13)
         (.seq (.draw [(⟨some 15, .loadN 3 (.tmp 2), none⟩, []),
            (⟨some 16, .fieldAddr 2 (.tmp 3), none⟩, []),
            (⟨some 17, .load1 (.tmp 16), none⟩, []),
            (⟨some 18, .call (F 59) [.tmp 17], none⟩, [⟨some 15, .loadN 3 (.tmp 2), none⟩]),
            (⟨some 19, .call (F 58) [.tmp 15, .tmp 18], none⟩, []),
            (⟨none, .store 3 (.tmp 4) (.tmp 19), none⟩, [])])
          (.ret))
         (.seq (.ops [⟨some 21, .bin .eql (.tmp 6) (.const (.int .i64 3)), none⟩,
            ⟨some 20, .move (.tmp 21), none⟩])
          (.cond (.tmp 20)
           (.seq (.draw [(⟨some 22, .loadN 3 (.tmp 2), none⟩, []),
              (⟨some 23, .fieldAddr 3 (.tmp 3), none⟩, []),
              (⟨some 24, .load1 (.tmp 23), none⟩, []),
              (⟨some 25, .call (F 60) [.tmp 24], none⟩, [⟨some 22, .loadN 3 (.tmp 2), none⟩]),
              (⟨some 26, .call (F 58) [.tmp 22, .tmp 25], none⟩, []),
              (⟨none, .store 3 (.tmp 4) (.tmp 26), none⟩, [])])
            (.ret))
           (.seq (.ops [⟨some 28, .bin .eql (.tmp 6) (.const (.int .i64 4)), none⟩,
              ⟨some 27, .move (.tmp 28), none⟩])
            (.cond (.tmp 27)
             (.seq (.draw [(⟨some 29, .loadN 3 (.tmp 2), none⟩, []),
                (⟨some 30, .fieldAddr 4 (.tmp 3), none⟩, []),
                (⟨some 31, .load1 (.tmp 30), none⟩, []),
                (⟨some 32, .call (F 61) [.tmp 31], none⟩, [⟨some 29, .loadN 3 (.tmp 2), none⟩]),
                (⟨some 33, .call (F 58) [.tmp 29, .tmp 32], none⟩, []),
                (⟨none, .store 3 (.tmp 4) (.tmp 33), none⟩, [])])
              (.ret))
             (.skip)))))))))))
   (.seq (.draw [(⟨some 34, .loadN 3 (.tmp 2), none⟩, []),
      (⟨some 35, .fieldAddr 1 (.tmp 3), none⟩, []),
      (⟨some 36, .load1 (.tmp 35), none⟩, []),
      (⟨some 37, .call (F 62) [.tmp 36], none⟩, [⟨some 34, .loadN 3 (.tmp 2), none⟩]),
      (⟨some 38, .call (F 58) [.tmp 34, .tmp 37], none⟩, []),
      (⟨none, .store 3 (.tmp 4) (.tmp 38), none⟩, [])])
    (.ret)))⟩
/-- hurdle/hurdlelaw03.same -/
def c_hurdlelaw03_same (F : Nat → FuncId) (Ty : Nat → TypeId) : IFunc := ⟨77, [.cellN 6 2, .tmp 7],
 .seq (.ops [⟨some 4, .box (.tmp 1), none⟩,
    ⟨some 6, .alloc [.string ⟨#[]⟩, .bool false], none⟩,
    ⟨some 7, .move (.const (.bool false)), none⟩])
  (.seq (.seq (.ops [⟨some 18, .move (.tmp 2), none⟩])
    (.block 0 (.seq (.ops [⟨some 20, .bin .eql (.tmp 18) (.const (.int .i64 1)), none⟩,
        ⟨some 19, .move (.tmp 20), none⟩])
      (.cond (.tmp 19)
       (.seq (.ops [⟨some 22, .loadN 2 (.tmp 4), none⟩,
          ⟨some 23, .call (F 63) [.tmp 22], none⟩,
          ⟨some 21, .move (.tmp 23), none⟩,
          ⟨some 24, .extract (.tmp 21) 0, none⟩,
          ⟨some 25, .extract (.tmp 21) 1, none⟩,
          ⟨some 8, .alloc [.string ⟨#[]⟩, .bool false], none⟩,
          ⟨none, .store 2 (.tmp 8) (.tmp 24), none⟩,
          ⟨some 9, .move (.tmp 25), none⟩])
        (.seq (.draw [(⟨some 26, .loadN 2 (.tmp 8), none⟩, []),
           (⟨some 27, .move (.tmp 0), none⟩, []),
           (⟨some 29, .move (.tmp 9), none⟩, []),
           (⟨some 28, .call (F 37) [.tmp 27], none⟩, [⟨some 26, .loadN 2 (.tmp 8), none⟩]),
           (⟨some 30, .bin .eql (.tmp 28) (.tmp 29), none⟩, []),
           (⟨none, .store 2 (.tmp 6) (.tmp 26), none⟩, []),
           (⟨some 7, .move (.tmp 30), none⟩, [])])
         (.ret)))
       (.seq (.ops [⟨some 32, .bin .eql (.tmp 18) (.const (.int .i64 2)), none⟩,
          ⟨some 31, .move (.tmp 32), none⟩])
        (.cond (.tmp 31)
         (.seq (.ops [⟨some 34, .loadN 2 (.tmp 4), none⟩,
            ⟨some 35, .call (F 64) [.tmp 34], none⟩,
            ⟨some 33, .move (.tmp 35), none⟩,
            ⟨some 36, .extract (.tmp 33) 0, none⟩,
            ⟨some 37, .extract (.tmp 33) 1, none⟩,
            ⟨some 10, .alloc [.string ⟨#[]⟩, .bool false], none⟩,
            ⟨none, .store 2 (.tmp 10) (.tmp 36), none⟩,
            ⟨some 11, .move (.tmp 37), none⟩])
          (.seq (.draw [(⟨some 38, .loadN 2 (.tmp 10), none⟩, []),
             (⟨some 39, .move (.tmp 0), none⟩, []),
             (⟨some 41, .move (.tmp 11), none⟩, []),
             (⟨some 40, .call (F 28) [.tmp 39], none⟩, [⟨some 38, .loadN 2 (.tmp 10), none⟩]),
             (⟨some 42, .bin .eql (.tmp 40) (.tmp 41), none⟩, []),
             (⟨none, .store 2 (.tmp 6) (.tmp 38), none⟩, []),
             (⟨some 7, .move (.tmp 42), none⟩, [])])
           (.ret)))
         (.seq (.ops [⟨some 44, .bin .eql (.tmp 18) (.const (.int .i64 3)), none⟩,
            ⟨some 43, .move (.tmp 44), none⟩])
          (.cond (.tmp 43)
           (.seq (.ops [⟨some 46, .loadN 2 (.tmp 4), none⟩,
              ⟨some 47, .call (F 65) [.tmp 46], none⟩,
              ⟨some 45, .move (.tmp 47), none⟩,
              ⟨some 48, .extract (.tmp 45) 0, none⟩,
              ⟨some 49, .extract (.tmp 45) 1, none⟩,
              ⟨some 12, .alloc [.string ⟨#[]⟩, .bool false], none⟩,
              ⟨none, .store 2 (.tmp 12) (.tmp 48), none⟩,
              ⟨some 13, .move (.tmp 49), none⟩])
            (.seq (.draw [(⟨some 50, .loadN 2 (.tmp 12), none⟩, []),
               (⟨some 51, .move (.tmp 0), none⟩, []),
               (⟨some 53, .move (.tmp 13), none⟩, []),
               (⟨some 52, .call (F 27) [.tmp 51], none⟩, [⟨some 50, .loadN 2 (.tmp 12), none⟩]),
               (⟨some 54, .call (F 69) [.tmp 52, .tmp 53], none⟩, [⟨some 50, .loadN 2 (.tmp 12), none⟩]),
               (⟨none, .store 2 (.tmp 6) (.tmp 50), none⟩, []),
               (⟨some 7, .move (.tmp 54), none⟩, [])])
             (.ret)))
           (.seq (.ops [⟨some 56, .bin .eql (.tmp 18) (.const (.int .i64 4)), none⟩,
              ⟨some 55, .move (.tmp 56), none⟩])
            (.cond (.tmp 55)
             (.seq (.ops [⟨some 58, .loadN 2 (.tmp 4), none⟩,
                ⟨some 59, .call (F 66) [.tmp 58], none⟩,
                ⟨some 57, .move (.tmp 59), none⟩,
                ⟨some 60, .extract (.tmp 57) 0, none⟩,
                ⟨some 61, .extract (.tmp 57) 1, none⟩,
                ⟨some 14, .alloc [.string ⟨#[]⟩, .bool false], none⟩,
                ⟨none, .store 2 (.tmp 14) (.tmp 60), none⟩,
                ⟨some 15, .move (.tmp 61), none⟩])
              (.seq (.draw [(⟨some 62, .loadN 2 (.tmp 14), none⟩, []),
                 (⟨some 63, .move (.tmp 0), none⟩, []),
                 (⟨some 65, .move (.tmp 15), none⟩, []),
                 (⟨some 64, .call (F 38) [.tmp 63], none⟩, [⟨some 62, .loadN 2 (.tmp 14), none⟩]),
                 (⟨some 66, .call (F 70) [.tmp 64, .tmp 65], none⟩, [⟨some 62, .loadN 2 (.tmp 14), none⟩]),
                 (⟨none, .store 2 (.tmp 6) (.tmp 62), none⟩, []),
                 (⟨some 7, .move (.tmp 66), none⟩, [])])
               (.ret)))
             (.skip)))))))))))
   (.seq (.ops [⟨some 68, .loadN 2 (.tmp 4), none⟩,
      ⟨some 69, .call (F 67) [.tmp 68], none⟩,
      ⟨some 67, .move (.tmp 69), none⟩,
      ⟨some 70, .extract (.tmp 67) 0, none⟩,
      ⟨some 71, .extract (.tmp 67) 1, none⟩,
      ⟨some 16, .alloc [.string ⟨#[]⟩, .bool false], none⟩,
      ⟨none, .store 2 (.tmp 16) (.tmp 70), none⟩,
      ⟨some 17, .move (.tmp 71), none⟩])
    (.seq (.draw [(⟨some 72, .loadN 2 (.tmp 16), none⟩, []),
       (⟨some 73, .move (.tmp 0), none⟩, []),
       (⟨some 75, .move (.tmp 17), none⟩, []),
       (⟨some 74, .call (F 29) [.tmp 73], none⟩, [⟨some 72, .loadN 2 (.tmp 16), none⟩]),
       (⟨some 76, .bin .eql (.tmp 74) (.tmp 75), none⟩, []),
       (⟨none, .store 2 (.tmp 6) (.tmp 72), none⟩, []),
       (⟨some 7, .move (.tmp 76), none⟩, [])])
     (.ret))))⟩
/-- A context has these functions. -/
structure HasLaw03 (c : Ctx) : Prop where
  hurdlelaw03_CodecOnly : c.IP (c.F 71) = some (c_hurdlelaw03_CodecOnly c.F c.Ty)
  hurdlelaw03_CodecWrites : c.IP (c.F 72) = some (c_hurdlelaw03_CodecWrites c.F c.Ty)
  hurdlelaw03_CodecReads : c.IP (c.F 73) = some (c_hurdlelaw03_CodecReads c.F c.Ty)
  hurdlelaw03_CodecBack : c.IP (c.F 74) = some (c_hurdlelaw03_CodecBack c.F c.Ty)
  hurdlelaw03_CodecNone : c.IP (c.F 75) = some (c_hurdlelaw03_CodecNone c.F c.Ty)
  hurdlelaw03_awake : c.IP (c.F 76) = some (c_hurdlelaw03_awake c.F c.Ty)
  hurdlelaw03_Few : c.IP (c.F 77) = some (c_hurdlelaw03_Few c.F c.Ty)
  hurdlelaw03_lay : c.IP (c.F 78) = some (c_hurdlelaw03_lay c.F c.Ty)
  hurdlelaw03_laid : c.IP (c.F 79) = some (c_hurdlelaw03_laid c.F c.Ty)
  hurdlelaw03_same : c.IP (c.F 80) = some (c_hurdlelaw03_same c.F c.Ty)

end Go.Proofs.YtkbojgebfndbkaaI
