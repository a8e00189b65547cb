/- PRINTED by gen.py (this session's own): the intermediate form of some functions, and a context's having them. -/
import Derived.Test.YthjdkcncnkcfaaaIdealX
namespace Go.Proofs.YthjdkcncnkcfaaaI
set_option linter.unusedSimpArgs false
set_option linter.unusedVariables false
open Go

/-- cmp.isNaN[int] -/
abbrev n_cmp_isNaN_int : Nat := 1
/-- cmp.Compare[int] -/
abbrev n_cmp_Compare_int : Nat := 2
/-- cmp.Or[int] -/
abbrev n_cmp_Or_int : Nat := 3
/-- hurdle/ballot.Cmp -/
abbrev n_ballot_Cmp : Nat := 4
/-- hurdle/ballot.Valid -/
abbrev n_ballot_Valid : Nat := 5
/-- hurdle/ballot.Next -/
abbrev n_ballot_Next : Nat := 6
/-- hurdle/ballot.Quorum -/
abbrev n_ballot_Quorum : Nat := 7
/-- hurdle/ballot.greatest -/
abbrev n_ballot_greatest : Nat := 8
/-- hurdle/ballot.Max -/
abbrev n_ballot_Max : Nat := 9
/-- hurdle/ballot.Pick -/
abbrev n_ballot_Pick : Nat := 10
/-- hurdle/ballot.Pick$1 -/
abbrev n_ballot_Pick_F1 : Nat := 11
/-- slices.MaxFunc[[]hurdle/api.Vote,hurdle/api.Vote] -/
abbrev n_slices_MaxFunc_api_Vote_api_Vote : Nat := 12
/-- slices.MaxFunc[[]hurdle/api.Ballot,hurdle/api.Ballot] -/
abbrev n_slices_MaxFunc_api_Ballot_api_Ballot : Nat := 13
/-- hurdle/hurdleref16.Cmp -/
abbrev n_hurdleref16_Cmp : Nat := 14
/-- hurdle/hurdleref16.Valid -/
abbrev n_hurdleref16_Valid : Nat := 15
/-- hurdle/hurdleref16.Next -/
abbrev n_hurdleref16_Next : Nat := 16
/-- hurdle/hurdleref16.Max -/
abbrev n_hurdleref16_Max : Nat := 17
/-- hurdle/hurdleref16.Quorum -/
abbrev n_hurdleref16_Quorum : Nat := 18
/-- hurdle/hurdleref16.Pick -/
abbrev n_hurdleref16_Pick : Nat := 19
/-- hurdle/hurdlelaw16.awake -/
abbrev n_hurdlelaw16_awake : Nat := 20
/-- hurdle/hurdlelaw16.BallotCmps -/
abbrev n_hurdlelaw16_BallotCmps : Nat := 21
/-- hurdle/hurdlelaw16.BallotPicks -/
abbrev n_hurdlelaw16_BallotPicks : Nat := 22
/-- hurdle/hurdlelaw16.BallotOrder -/
abbrev n_hurdlelaw16_BallotOrder : Nat := 23
/-- hurdle/hurdlelaw16.BallotNext -/
abbrev n_hurdlelaw16_BallotNext : Nat := 24
/-- hurdle/hurdlelaw16.BallotQuorums -/
abbrev n_hurdlelaw16_BallotQuorums : Nat := 25
/-- cmp.isNaN[int] -/
def c_cmp_isNaN_int (F : Nat → FuncId) (Ty : Nat → TypeId) : IFunc := ⟨6, [.tmp 2],
 .seq (.ops [⟨some 2, .move (.const (.bool false)), none⟩])
  (.seq (.ops [⟨some 3, .move (.tmp 0), none⟩,
     ⟨some 4, .move (.tmp 0), none⟩,
     ⟨some 5, .bin .neq (.tmp 3) (.tmp 4), none⟩,
     ⟨some 2, .move (.tmp 5), none⟩])
   (.ret))⟩
/-- cmp.Compare[int] -/
def c_cmp_Compare_int (F : Nat → FuncId) (Ty : Nat → TypeId) : IFunc := ⟨20, [.tmp 4],
 .seq (.ops [⟨some 4, .move (.const (.int .i64 0)), none⟩])
  (.seq (.ops [⟨some 7, .move (.tmp 0), none⟩,
     ⟨some 8, .call (F 1) [.tmp 7], none⟩,
     ⟨some 5, .move (.tmp 8), none⟩])
   (.seq (.ops [⟨some 9, .move (.tmp 1), none⟩,
      ⟨some 10, .call (F 1) [.tmp 9], none⟩,
      ⟨some 6, .move (.tmp 10), none⟩])
    (.seq (.seq (.ops [⟨some 11, .move (.tmp 5), none⟩])
      (.cond (.tmp 11)
       (.seq (.seq (.ops [⟨some 12, .move (.tmp 6), none⟩])
         (.cond (.tmp 12)
          (.seq (.ops [⟨some 4, .move (.const (.int .i64 0)), none⟩])
           (.ret))
          (.skip)))
        (.seq (.ops [⟨some 4, .move (.const (.int .i64 (-1))), none⟩])
         (.ret)))
       (.skip)))
     (.seq (.seq (.ops [⟨some 13, .move (.tmp 6), none⟩])
       (.cond (.tmp 13)
        (.seq (.ops [⟨some 4, .move (.const (.int .i64 1)), none⟩])
         (.ret))
        (.skip)))
      (.seq (.seq (.ops [⟨some 14, .move (.tmp 0), none⟩,
          ⟨some 15, .move (.tmp 1), none⟩,
          ⟨some 16, .bin .lss (.tmp 14) (.tmp 15), none⟩])
        (.cond (.tmp 16)
         (.seq (.ops [⟨some 4, .move (.const (.int .i64 (-1))), none⟩])
          (.ret))
         (.skip)))
       (.seq (.seq (.ops [⟨some 17, .move (.tmp 0), none⟩,
           ⟨some 18, .move (.tmp 1), none⟩,
           ⟨some 19, .bin .gtr (.tmp 17) (.tmp 18), none⟩])
         (.cond (.tmp 19)
          (.seq (.ops [⟨some 4, .move (.const (.int .i64 1)), none⟩])
           (.ret))
          (.skip)))
        (.seq (.ops [⟨some 4, .move (.const (.int .i64 0)), none⟩])
         (.ret))))))))⟩
/-- cmp.Or[int] -/
def c_cmp_Or_int (F : Nat → FuncId) (Ty : Nat → TypeId) : IFunc := ⟨18, [.tmp 2],
 .seq (.ops [⟨some 2, .move (.const (.int .i64 0)), none⟩])
  (.seq (.ops [⟨some 3, .move (.const (.int .i64 0)), none⟩])
   (.seq (.seq (.ops [⟨some 6, .move (.tmp 0), none⟩,
       ⟨some 7, .lenSl (.tmp 6), none⟩,
       ⟨some 8, .move (.const (.int .i64 0)), none⟩])
     (.block 0 (.loop (.seq (.ops [⟨some 9, .bin .lss (.tmp 8) (.tmp 7), none⟩])
        (.seq (.cond (.tmp 9)
          (.skip)
          (.exit 0))
         (.seq (.block 1 (.seq (.ops [⟨some 10, .idxSl 1 (.tmp 6) (.tmp 8), none⟩,
              ⟨some 11, .load1 (.tmp 10), none⟩,
              ⟨some 5, .move (.tmp 11), none⟩])
            (.seq (.ops [⟨some 12, .move (.tmp 5), none⟩,
               ⟨some 13, .move (.tmp 3), none⟩,
               ⟨some 14, .bin .neq (.tmp 12) (.tmp 13), none⟩])
             (.cond (.tmp 14)
              (.seq (.ops [⟨some 15, .move (.tmp 5), none⟩,
                 ⟨some 2, .move (.tmp 15), none⟩])
               (.ret))
              (.skip)))))
          (.ops [⟨some 16, .bin .add (.tmp 8) (.const (.int .i64 1)), none⟩,
            ⟨some 8, .move (.tmp 16), none⟩])))))))
    (.seq (.ops [⟨some 17, .move (.tmp 3), none⟩,
       ⟨some 2, .move (.tmp 17), none⟩])
     (.ret))))⟩
/-- hurdle/ballot.Cmp -/
def c_ballot_Cmp (F : Nat → FuncId) (Ty : Nat → TypeId) : IFunc := ⟨17, [.tmp 4],
 .seq (.ops [⟨some 2, .box (.tmp 0), none⟩,
    ⟨some 3, .box (.tmp 1), none⟩,
    ⟨some 4, .move (.const (.int .i64 0)), none⟩])
  (.seq (.draw [(⟨some 5, .fieldAddr 0 (.tmp 2), none⟩, []),
     (⟨some 6, .load1 (.tmp 5), none⟩, []),
     (⟨some 7, .fieldAddr 0 (.tmp 3), none⟩, []),
     (⟨some 8, .load1 (.tmp 7), none⟩, []),
     (⟨some 10, .fieldAddr 1 (.tmp 2), none⟩, []),
     (⟨some 11, .load1 (.tmp 10), none⟩, []),
     (⟨some 12, .fieldAddr 1 (.tmp 3), none⟩, []),
     (⟨some 13, .load1 (.tmp 12), none⟩, []),
     (⟨some 9, .call (F 2) [.tmp 6, .tmp 8], none⟩, [⟨some 11, .load1 (.tmp 10), none⟩, ⟨some 13, .load1 (.tmp 12), none⟩]),
     (⟨some 14, .call (F 2) [.tmp 11, .tmp 13], none⟩, []),
     (⟨some 15, .buildSlice 2 [.int .i64 0, .int .i64 0] [((0, 1), .tmp 9), ((1, 1), .tmp 14)], none⟩, []),
     (⟨some 16, .call (F 3) [.tmp 15], none⟩, []),
     (⟨some 4, .move (.tmp 16), none⟩, [])])
   (.ret))⟩
/-- hurdle/ballot.Valid -/
def c_ballot_Valid (F : Nat → FuncId) (Ty : Nat → TypeId) : IFunc := ⟨21, [.tmp 2],
 .seq (.ops [⟨some 1, .box (.tmp 0), none⟩,
    ⟨some 2, .move (.const (.bool false)), none⟩])
  (.seq (.ops [⟨some 3, .fieldAddr 0 (.tmp 1), none⟩,
     ⟨some 4, .load1 (.tmp 3), none⟩,
     ⟨some 5, .bin .geq (.tmp 4) (.const (.int .i64 0)), none⟩,
     ⟨some 6, .move (.tmp 5), none⟩,
     ⟨some 7, .fieldAddr 0 (.tmp 1), some (6, true)⟩,
     ⟨some 8, .load1 (.tmp 7), some (6, true)⟩,
     ⟨some 9, .bin .lss (.tmp 8) (.const (.int .i64 2147483648)), some (6, true)⟩,
     ⟨some 10, .pick (.tmp 6) (.tmp 9) (.const (.bool false)), none⟩,
     ⟨some 11, .move (.tmp 10), none⟩,
     ⟨some 12, .fieldAddr 1 (.tmp 1), some (11, true)⟩,
     ⟨some 13, .load1 (.tmp 12), some (11, true)⟩,
     ⟨some 14, .bin .geq (.tmp 13) (.const (.int .i64 0)), some (11, true)⟩,
     ⟨some 15, .pick (.tmp 11) (.tmp 14) (.const (.bool false)), none⟩,
     ⟨some 16, .move (.tmp 15), none⟩,
     ⟨some 17, .fieldAddr 1 (.tmp 1), some (16, true)⟩,
     ⟨some 18, .load1 (.tmp 17), some (16, true)⟩,
     ⟨some 19, .bin .lss (.tmp 18) (.const (.int .i64 7)), some (16, true)⟩,
     ⟨some 20, .pick (.tmp 16) (.tmp 19) (.const (.bool false)), none⟩,
     ⟨some 2, .move (.tmp 20), none⟩])
   (.ret))⟩
/-- hurdle/ballot.Next -/
def c_ballot_Next (F : Nat → FuncId) (Ty : Nat → TypeId) : IFunc := ⟨21, [.cellN 4 2],
 .seq (.ops [⟨some 2, .box (.tmp 0), none⟩,
    ⟨some 4, .alloc [.int .i64 0, .int .i64 0], none⟩])
  (.seq (.seq (.ops [⟨some 5, .fieldAddr 0 (.tmp 2), none⟩,
      ⟨some 6, .load1 (.tmp 5), none⟩,
      ⟨some 7, .bin .lss (.tmp 6) (.const (.int .i64 0)), none⟩,
      ⟨some 8, .move (.tmp 7), none⟩,
      ⟨some 9, .fieldAddr 0 (.tmp 2), some (8, false)⟩,
      ⟨some 10, .load1 (.tmp 9), some (8, false)⟩,
      ⟨some 11, .bin .geq (.tmp 10) (.const (.int .i64 2147483647)), some (8, false)⟩,
      ⟨some 12, .pick (.tmp 8) (.const (.bool true)) (.tmp 11), none⟩])
    (.cond (.tmp 12)
     (.seq (.ops [⟨some 13, .build [.int .i64 0, .int .i64 0] [], none⟩,
        ⟨none, .store 2 (.tmp 4) (.tmp 13), none⟩])
      (.ret))
     (.skip)))
   (.seq (.ops [⟨some 14, .fieldAddr 0 (.tmp 2), none⟩,
      ⟨some 15, .load1 (.tmp 14), none⟩,
      ⟨some 16, .bin .add (.tmp 15) (.const (.int .i64 1)), none⟩,
      ⟨some 17, .move (.tmp 1), none⟩,
      ⟨some 18, .mxn true (.tmp 17) (.const (.int .i64 0)), none⟩,
      ⟨some 19, .mxn false (.tmp 18) (.const (.int .i64 6)), none⟩,
      ⟨some 20, .build [.int .i64 0, .int .i64 0] [((0, 1), .tmp 16), ((1, 1), .tmp 19)], none⟩,
      ⟨none, .store 2 (.tmp 4) (.tmp 20), none⟩])
    (.ret)))⟩
/-- hurdle/ballot.Quorum -/
def c_ballot_Quorum (F : Nat → FuncId) (Ty : Nat → TypeId) : IFunc := ⟨12, [.tmp 2],
 .seq (.ops [⟨some 2, .move (.const (.int .i64 0)), none⟩])
  (.seq (.seq (.ops [⟨some 3, .move (.tmp 0), none⟩,
      ⟨some 4, .bin .lss (.tmp 3) (.const (.int .i64 1)), none⟩,
      ⟨some 5, .move (.tmp 4), none⟩,
      ⟨some 6, .move (.tmp 0), some (5, false)⟩,
      ⟨some 7, .bin .gtr (.tmp 6) (.const (.int .i64 7)), some (5, false)⟩,
      ⟨some 8, .pick (.tmp 5) (.const (.bool true)) (.tmp 7), none⟩])
    (.cond (.tmp 8)
     (.seq (.ops [⟨some 2, .move (.const (.int .i64 0)), none⟩])
      (.ret))
     (.skip)))
   (.seq (.ops [⟨some 9, .move (.tmp 0), none⟩,
      ⟨some 10, .bin .quo (.tmp 9) (.const (.int .i64 2)), none⟩,
      ⟨some 11, .bin .add (.tmp 10) (.const (.int .i64 1)), none⟩,
      ⟨some 2, .move (.tmp 11), none⟩])
    (.ret)))⟩
/-- hurdle/ballot.greatest -/
def c_ballot_greatest (F : Nat → FuncId) (Ty : Nat → TypeId) : IFunc := ⟨5, [.cellN 2 2],
 .seq (.ops [⟨some 2, .alloc [.int .i64 0, .int .i64 0], none⟩])
  (.seq (.ops [⟨some 3, .move (.tmp 0), none⟩,
     ⟨some 4, .call (F 13) [.tmp 3, .func (F 4)], none⟩,
     ⟨none, .store 2 (.tmp 2) (.tmp 4), none⟩])
   (.ret))⟩
/-- hurdle/ballot.Max -/
def c_ballot_Max (F : Nat → FuncId) (Ty : Nat → TypeId) : IFunc := ⟨9, [.cellN 2 2],
 .seq (.ops [⟨some 2, .alloc [.int .i64 0, .int .i64 0], none⟩])
  (.seq (.seq (.ops [⟨some 3, .move (.tmp 0), none⟩,
      ⟨some 4, .lenSl (.tmp 3), none⟩,
      ⟨some 5, .bin .eql (.tmp 4) (.const (.int .i64 0)), none⟩])
    (.cond (.tmp 5)
     (.seq (.ops [⟨some 6, .build [.int .i64 0, .int .i64 0] [], none⟩,
        ⟨none, .store 2 (.tmp 2) (.tmp 6), none⟩])
      (.ret))
     (.skip)))
   (.seq (.ops [⟨some 7, .move (.tmp 0), none⟩,
      ⟨some 8, .call (F 8) [.tmp 7], none⟩,
      ⟨none, .store 2 (.tmp 2) (.tmp 8), none⟩])
    (.ret)))⟩
/-- hurdle/ballot.Pick -/
def c_ballot_Pick (F : Nat → FuncId) (Ty : Nat → TypeId) : IFunc := ⟨10, [.cellN 2 4, .tmp 3],
 .seq (.ops [⟨some 2, .alloc [.int .i64 0, .int .i64 0, .int .i64 0, .string ⟨#[]⟩], none⟩,
    ⟨some 3, .move (.const (.bool false)), none⟩])
  (.seq (.seq (.ops [⟨some 4, .move (.tmp 0), none⟩,
      ⟨some 5, .lenSl (.tmp 4), none⟩,
      ⟨some 6, .bin .eql (.tmp 5) (.const (.int .i64 0)), none⟩])
    (.cond (.tmp 6)
     (.seq (.ops [⟨some 7, .build [.int .i64 0, .int .i64 0, .int .i64 0, .string ⟨#[]⟩] [], none⟩,
        ⟨none, .store 4 (.tmp 2) (.tmp 7), none⟩,
        ⟨some 3, .move (.const (.bool false)), none⟩])
      (.ret))
     (.skip)))
   (.seq (.ops [⟨some 8, .move (.tmp 0), none⟩,
      ⟨some 9, .call (F 12) [.tmp 8, .func (F 11)], none⟩,
      ⟨none, .store 4 (.tmp 2) (.tmp 9), none⟩,
      ⟨some 3, .move (.const (.bool true)), none⟩])
    (.ret)))⟩
/-- hurdle/ballot.Pick$1 -/
def c_ballot_Pick_F1 (F : Nat → FuncId) (Ty : Nat → TypeId) : IFunc := ⟨10, [.tmp 4],
 .seq (.ops [⟨some 2, .box (.tmp 0), none⟩,
    ⟨some 3, .box (.tmp 1), none⟩,
    ⟨some 4, .move (.const (.int .i64 0)), none⟩])
  (.seq (.ops [⟨some 5, .fieldAddr 1 (.tmp 2), none⟩,
     ⟨some 6, .loadN 2 (.tmp 5), none⟩,
     ⟨some 7, .fieldAddr 1 (.tmp 3), none⟩,
     ⟨some 8, .loadN 2 (.tmp 7), none⟩,
     ⟨some 9, .call (F 4) [.tmp 6, .tmp 8], none⟩,
     ⟨some 4, .move (.tmp 9), none⟩])
   (.ret))⟩
/-- slices.MaxFunc[[]hurdle/api.Vote,hurdle/api.Vote] -/
def c_slices_MaxFunc_api_Vote_api_Vote (F : Nat → FuncId) (Ty : Nat → TypeId) : IFunc := ⟨33, [.cellN 4 4],
 .seq (.ops [⟨some 4, .alloc [.int .i64 0, .int .i64 0, .int .i64 0, .string ⟨#[]⟩], none⟩])
  (.seq (.seq (.ops [⟨some 7, .move (.tmp 0), none⟩,
      ⟨some 8, .lenSl (.tmp 7), none⟩,
      ⟨some 9, .bin .lss (.tmp 8) (.const (.int .i64 1)), none⟩])
    (.cond (.tmp 9)
     (.ops [⟨some 10, .mkIface (Ty 1) (.const (.string ⟨#[115, 108, 105, 99, 101, 115, 46, 77, 97, 120, 70, 117, 110, 99, 58, 32, 101, 109, 112, 116, 121, 32, 108, 105, 115, 116]⟩)), none⟩,
       ⟨none, .never, none⟩])
     (.skip)))
   (.seq (.ops [⟨some 11, .move (.tmp 0), none⟩,
      ⟨some 12, .idxSl 4 (.tmp 11) (.const (.int .i64 0)), none⟩,
      ⟨some 13, .loadN 4 (.tmp 12), none⟩,
      ⟨some 5, .alloc [.int .i64 0, .int .i64 0, .int .i64 0, .string ⟨#[]⟩], none⟩,
      ⟨none, .store 4 (.tmp 5) (.tmp 13), none⟩])
    (.seq (.seq (.ops [⟨some 6, .move (.const (.int .i64 1)), none⟩])
      (.block 0 (.loop (.seq (.seq (.ops [⟨some 14, .move (.tmp 6), none⟩,
            ⟨some 15, .move (.tmp 0), none⟩,
            ⟨some 16, .lenSl (.tmp 15), none⟩,
            ⟨some 17, .bin .lss (.tmp 14) (.tmp 16), none⟩])
          (.cond (.tmp 17)
           (.skip)
           (.exit 0)))
         (.seq (.block 1 (.seq (.draw [(⟨some 20, .move (.tmp 1), none⟩, []),
              (⟨some 21, .move (.tmp 0), none⟩, []),
              (⟨some 22, .move (.tmp 6), none⟩, []),
              (⟨some 23, .idxSl 4 (.tmp 21) (.tmp 22), none⟩, []),
              (⟨some 24, .loadN 4 (.tmp 23), none⟩, []),
              (⟨some 25, .loadN 4 (.tmp 5), none⟩, []),
              (⟨some 26, .callDyn (.tmp 20) [.tmp 24, .tmp 25], none⟩, []),
              (⟨some 27, .bin .gtr (.tmp 26) (.const (.int .i64 0)), none⟩, [])])
            (.cond (.tmp 27)
             (.ops [⟨some 28, .move (.tmp 0), none⟩,
               ⟨some 29, .move (.tmp 6), none⟩,
               ⟨some 30, .idxSl 4 (.tmp 28) (.tmp 29), none⟩,
               ⟨some 31, .loadN 4 (.tmp 30), none⟩,
               ⟨none, .store 4 (.tmp 5) (.tmp 31), none⟩])
             (.skip))))
          (.ops [⟨some 18, .move (.tmp 6), none⟩,
            ⟨some 19, .bin .add (.tmp 18) (.const (.int .i64 1)), none⟩,
            ⟨some 6, .move (.tmp 19), none⟩]))))))
     (.seq (.ops [⟨some 32, .loadN 4 (.tmp 5), none⟩,
        ⟨none, .store 4 (.tmp 4) (.tmp 32), none⟩])
      (.ret)))))⟩
/-- slices.MaxFunc[[]hurdle/api.Ballot,hurdle/api.Ballot] -/
def c_slices_MaxFunc_api_Ballot_api_Ballot (F : Nat → FuncId) (Ty : Nat → TypeId) : IFunc := ⟨33, [.cellN 4 2],
 .seq (.ops [⟨some 4, .alloc [.int .i64 0, .int .i64 0], none⟩])
  (.seq (.seq (.ops [⟨some 7, .move (.tmp 0), none⟩,
      ⟨some 8, .lenSl (.tmp 7), none⟩,
      ⟨some 9, .bin .lss (.tmp 8) (.const (.int .i64 1)), none⟩])
    (.cond (.tmp 9)
     (.ops [⟨some 10, .mkIface (Ty 1) (.const (.string ⟨#[115, 108, 105, 99, 101, 115, 46, 77, 97, 120, 70, 117, 110, 99, 58, 32, 101, 109, 112, 116, 121, 32, 108, 105, 115, 116]⟩)), none⟩,
       ⟨none, .never, none⟩])
     (.skip)))
   (.seq (.ops [⟨some 11, .move (.tmp 0), none⟩,
      ⟨some 12, .idxSl 2 (.tmp 11) (.const (.int .i64 0)), none⟩,
      ⟨some 13, .loadN 2 (.tmp 12), none⟩,
      ⟨some 5, .alloc [.int .i64 0, .int .i64 0], none⟩,
      ⟨none, .store 2 (.tmp 5) (.tmp 13), none⟩])
    (.seq (.seq (.ops [⟨some 6, .move (.const (.int .i64 1)), none⟩])
      (.block 0 (.loop (.seq (.seq (.ops [⟨some 14, .move (.tmp 6), none⟩,
            ⟨some 15, .move (.tmp 0), none⟩,
            ⟨some 16, .lenSl (.tmp 15), none⟩,
            ⟨some 17, .bin .lss (.tmp 14) (.tmp 16), none⟩])
          (.cond (.tmp 17)
           (.skip)
           (.exit 0)))
         (.seq (.block 1 (.seq (.draw [(⟨some 20, .move (.tmp 1), none⟩, []),
              (⟨some 21, .move (.tmp 0), none⟩, []),
              (⟨some 22, .move (.tmp 6), none⟩, []),
              (⟨some 23, .idxSl 2 (.tmp 21) (.tmp 22), none⟩, []),
              (⟨some 24, .loadN 2 (.tmp 23), none⟩, []),
              (⟨some 25, .loadN 2 (.tmp 5), none⟩, []),
              (⟨some 26, .callDyn (.tmp 20) [.tmp 24, .tmp 25], none⟩, []),
              (⟨some 27, .bin .gtr (.tmp 26) (.const (.int .i64 0)), none⟩, [])])
            (.cond (.tmp 27)
             (.ops [⟨some 28, .move (.tmp 0), none⟩,
               ⟨some 29, .move (.tmp 6), none⟩,
               ⟨some 30, .idxSl 2 (.tmp 28) (.tmp 29), none⟩,
               ⟨some 31, .loadN 2 (.tmp 30), none⟩,
               ⟨none, .store 2 (.tmp 5) (.tmp 31), none⟩])
             (.skip))))
          (.ops [⟨some 18, .move (.tmp 6), none⟩,
            ⟨some 19, .bin .add (.tmp 18) (.const (.int .i64 1)), none⟩,
            ⟨some 6, .move (.tmp 19), none⟩]))))))
     (.seq (.ops [⟨some 32, .loadN 2 (.tmp 5), none⟩,
        ⟨none, .store 2 (.tmp 4) (.tmp 32), none⟩])
      (.ret)))))⟩
/-- hurdle/hurdleref16.Cmp -/
def c_hurdleref16_Cmp (F : Nat → FuncId) (Ty : Nat → TypeId) : IFunc := ⟨29, [.tmp 4],
 .seq (.ops [⟨some 2, .box (.tmp 0), none⟩,
    ⟨some 3, .box (.tmp 1), none⟩,
    ⟨some 4, .move (.const (.int .i64 0)), none⟩])
  (.seq (.block 0 (.seq (.ops [⟨some 6, .fieldAddr 0 (.tmp 2), none⟩,
       ⟨some 7, .load1 (.tmp 6), none⟩,
       ⟨some 8, .fieldAddr 0 (.tmp 3), none⟩,
       ⟨some 9, .load1 (.tmp 8), none⟩,
       ⟨some 10, .bin .lss (.tmp 7) (.tmp 9), none⟩,
       ⟨some 11, .move (.tmp 10), none⟩,
       ⟨some 12, .fieldAddr 0 (.tmp 2), some (11, false)⟩,
       ⟨some 13, .load1 (.tmp 12), some (11, false)⟩,
       ⟨some 14, .fieldAddr 0 (.tmp 3), some (11, false)⟩,
       ⟨some 15, .load1 (.tmp 14), some (11, false)⟩,
       ⟨some 16, .bin .eql (.tmp 13) (.tmp 15), some (11, false)⟩,
       ⟨some 17, .move (.tmp 16), some (11, false)⟩,
       ⟨some 18, .fieldAddr 1 (.tmp 2), some (17, true)⟩,
       ⟨some 19, .load1 (.tmp 18), some (17, true)⟩,
       ⟨some 20, .fieldAddr 1 (.tmp 3), some (17, true)⟩,
       ⟨some 21, .load1 (.tmp 20), some (17, true)⟩,
       ⟨some 22, .bin .lss (.tmp 19) (.tmp 21), some (17, true)⟩,
       ⟨some 23, .pick (.tmp 17) (.tmp 22) (.const (.bool false)), some (11, false)⟩,
       ⟨some 24, .pick (.tmp 11) (.const (.bool true)) (.tmp 23), none⟩,
       ⟨some 5, .move (.tmp 24), none⟩])
     (.cond (.tmp 5)
      (.seq (.ops [⟨some 4, .move (.const (.int .i64 (-1))), none⟩])
       (.ret))
      (.seq (.ops [⟨some 26, .loadN 2 (.tmp 2), none⟩,
         ⟨some 27, .loadN 2 (.tmp 3), none⟩,
         ⟨some 28, .eqv false [.i .i64, .i .i64] (.tmp 26) (.tmp 27), none⟩,
         ⟨some 25, .move (.tmp 28), none⟩])
       (.cond (.tmp 25)
        (.seq (.ops [⟨some 4, .move (.const (.int .i64 0)), none⟩])
         (.ret))
        (.skip))))))
   (.seq (.ops [⟨some 4, .move (.const (.int .i64 1)), none⟩])
    (.ret)))⟩
/-- hurdle/hurdleref16.Valid -/
def c_hurdleref16_Valid (F : Nat → FuncId) (Ty : Nat → TypeId) : IFunc := ⟨21, [.tmp 2],
 .seq (.ops [⟨some 1, .box (.tmp 0), none⟩,
    ⟨some 2, .move (.const (.bool false)), none⟩])
  (.seq (.ops [⟨some 3, .fieldAddr 0 (.tmp 1), none⟩,
     ⟨some 4, .load1 (.tmp 3), none⟩,
     ⟨some 5, .bin .geq (.tmp 4) (.const (.int .i64 0)), none⟩,
     ⟨some 6, .move (.tmp 5), none⟩,
     ⟨some 7, .fieldAddr 0 (.tmp 1), some (6, true)⟩,
     ⟨some 8, .load1 (.tmp 7), some (6, true)⟩,
     ⟨some 9, .bin .lss (.tmp 8) (.const (.int .i64 2147483648)), some (6, true)⟩,
     ⟨some 10, .pick (.tmp 6) (.tmp 9) (.const (.bool false)), none⟩,
     ⟨some 11, .move (.tmp 10), none⟩,
     ⟨some 12, .fieldAddr 1 (.tmp 1), some (11, true)⟩,
     ⟨some 13, .load1 (.tmp 12), some (11, true)⟩,
     ⟨some 14, .bin .geq (.tmp 13) (.const (.int .i64 0)), some (11, true)⟩,
     ⟨some 15, .pick (.tmp 11) (.tmp 14) (.const (.bool false)), none⟩,
     ⟨some 16, .move (.tmp 15), none⟩,
     ⟨some 17, .fieldAddr 1 (.tmp 1), some (16, true)⟩,
     ⟨some 18, .load1 (.tmp 17), some (16, true)⟩,
     ⟨some 19, .bin .lss (.tmp 18) (.const (.int .i64 7)), some (16, true)⟩,
     ⟨some 20, .pick (.tmp 16) (.tmp 19) (.const (.bool false)), none⟩,
     ⟨some 2, .move (.tmp 20), none⟩])
   (.ret))⟩
/-- hurdle/hurdleref16.Next -/
def c_hurdleref16_Next (F : Nat → FuncId) (Ty : Nat → TypeId) : IFunc := ⟨21, [.cellN 4 2],
 .seq (.ops [⟨some 2, .box (.tmp 0), none⟩,
    ⟨some 4, .alloc [.int .i64 0, .int .i64 0], none⟩])
  (.seq (.seq (.ops [⟨some 5, .fieldAddr 0 (.tmp 2), none⟩,
      ⟨some 6, .load1 (.tmp 5), none⟩,
      ⟨some 7, .bin .lss (.tmp 6) (.const (.int .i64 0)), none⟩,
      ⟨some 8, .move (.tmp 7), none⟩,
      ⟨some 9, .fieldAddr 0 (.tmp 2), some (8, false)⟩,
      ⟨some 10, .load1 (.tmp 9), some (8, false)⟩,
      ⟨some 11, .bin .geq (.tmp 10) (.const (.int .i64 2147483647)), some (8, false)⟩,
      ⟨some 12, .pick (.tmp 8) (.const (.bool true)) (.tmp 11), none⟩])
    (.cond (.tmp 12)
     (.seq (.ops [⟨some 13, .build [.int .i64 0, .int .i64 0] [], none⟩,
        ⟨none, .store 2 (.tmp 4) (.tmp 13), none⟩])
      (.ret))
     (.skip)))
   (.seq (.ops [⟨some 14, .fieldAddr 0 (.tmp 2), none⟩,
      ⟨some 15, .load1 (.tmp 14), none⟩,
      ⟨some 16, .bin .add (.tmp 15) (.const (.int .i64 1)), none⟩,
      ⟨some 17, .move (.tmp 1), none⟩,
      ⟨some 18, .mxn true (.tmp 17) (.const (.int .i64 0)), none⟩,
      ⟨some 19, .mxn false (.tmp 18) (.const (.int .i64 6)), none⟩,
      ⟨some 20, .build [.int .i64 0, .int .i64 0] [((0, 1), .tmp 16), ((1, 1), .tmp 19)], none⟩,
      ⟨none, .store 2 (.tmp 4) (.tmp 20), none⟩])
    (.ret)))⟩
/-- hurdle/hurdleref16.Max -/
def c_hurdleref16_Max (F : Nat → FuncId) (Ty : Nat → TypeId) : IFunc := ⟨28, [.cellN 2 2],
 .seq (.ops [⟨some 2, .alloc [.int .i64 0, .int .i64 0], none⟩])
  (.seq (.ops [⟨some 5, .build [.int .i64 0, .int .i64 0] [], none⟩,
     ⟨some 3, .alloc [.int .i64 0, .int .i64 0], none⟩,
     ⟨none, .store 2 (.tmp 3) (.tmp 5), none⟩])
   (.seq (.seq (.ops [⟨some 4, .move (.const (.int .i64 0)), none⟩])
     (.block 0 (.loop (.seq (.seq (.ops [⟨some 6, .move (.tmp 4), none⟩,
           ⟨some 7, .move (.tmp 0), none⟩,
           ⟨some 8, .lenSl (.tmp 7), none⟩,
           ⟨some 9, .bin .lss (.tmp 6) (.tmp 8), none⟩])
         (.cond (.tmp 9)
          (.skip)
          (.exit 0)))
        (.seq (.block 1 (.seq (.draw [(⟨some 12, .move (.tmp 4), none⟩, []),
             (⟨some 13, .bin .eql (.tmp 12) (.const (.int .i64 0)), none⟩, []),
             (⟨some 14, .move (.tmp 13), none⟩, []),
             (⟨some 15, .move (.tmp 0), some (14, false)⟩, []),
             (⟨some 16, .move (.tmp 4), some (14, false)⟩, []),
             (⟨some 17, .idxSl 2 (.tmp 15) (.tmp 16), some (14, false)⟩, []),
             (⟨some 18, .loadN 2 (.tmp 17), some (14, false)⟩, []),
             (⟨some 19, .loadN 2 (.tmp 3), some (14, false)⟩, []),
             (⟨some 20, .call (F 14) [.tmp 18, .tmp 19], some (14, false)⟩, []),
             (⟨some 21, .bin .gtr (.tmp 20) (.const (.int .i64 0)), some (14, false)⟩, []),
             (⟨some 22, .pick (.tmp 14) (.const (.bool true)) (.tmp 21), none⟩, [])])
           (.cond (.tmp 22)
            (.ops [⟨some 23, .move (.tmp 0), none⟩,
              ⟨some 24, .move (.tmp 4), none⟩,
              ⟨some 25, .idxSl 2 (.tmp 23) (.tmp 24), none⟩,
              ⟨some 26, .loadN 2 (.tmp 25), none⟩,
              ⟨none, .store 2 (.tmp 3) (.tmp 26), none⟩])
            (.skip))))
         (.ops [⟨some 10, .move (.tmp 4), none⟩,
           ⟨some 11, .bin .add (.tmp 10) (.const (.int .i64 1)), none⟩,
           ⟨some 4, .move (.tmp 11), none⟩]))))))
    (.seq (.ops [⟨some 27, .loadN 2 (.tmp 3), none⟩,
       ⟨none, .store 2 (.tmp 2) (.tmp 27), none⟩])
     (.ret))))⟩
/-- hurdle/hurdleref16.Quorum -/
def c_hurdleref16_Quorum (F : Nat → FuncId) (Ty : Nat → TypeId) : IFunc := ⟨12, [.tmp 2],
 .seq (.ops [⟨some 2, .move (.const (.int .i64 0)), none⟩])
  (.seq (.seq (.ops [⟨some 3, .move (.tmp 0), none⟩,
      ⟨some 4, .bin .lss (.tmp 3) (.const (.int .i64 1)), none⟩,
      ⟨some 5, .move (.tmp 4), none⟩,
      ⟨some 6, .move (.tmp 0), some (5, false)⟩,
      ⟨some 7, .bin .gtr (.tmp 6) (.const (.int .i64 7)), some (5, false)⟩,
      ⟨some 8, .pick (.tmp 5) (.const (.bool true)) (.tmp 7), none⟩])
    (.cond (.tmp 8)
     (.seq (.ops [⟨some 2, .move (.const (.int .i64 0)), none⟩])
      (.ret))
     (.skip)))
   (.seq (.ops [⟨some 9, .move (.tmp 0), none⟩,
      ⟨some 10, .bin .quo (.tmp 9) (.const (.int .i64 2)), none⟩,
      ⟨some 11, .bin .add (.tmp 10) (.const (.int .i64 1)), none⟩,
      ⟨some 2, .move (.tmp 11), none⟩])
    (.ret)))⟩
/-- hurdle/hurdleref16.Pick -/
def c_hurdleref16_Pick (F : Nat → FuncId) (Ty : Nat → TypeId) : IFunc := ⟨34, [.cellN 2 4, .tmp 3],
 .seq (.ops [⟨some 2, .alloc [.int .i64 0, .int .i64 0, .int .i64 0, .string ⟨#[]⟩], none⟩,
    ⟨some 3, .move (.const (.bool false)), none⟩])
  (.seq (.ops [⟨some 6, .build [.int .i64 0, .int .i64 0, .int .i64 0, .string ⟨#[]⟩] [], none⟩,
     ⟨some 4, .alloc [.int .i64 0, .int .i64 0, .int .i64 0, .string ⟨#[]⟩], none⟩,
     ⟨none, .store 4 (.tmp 4) (.tmp 6), none⟩])
   (.seq (.seq (.ops [⟨some 5, .move (.const (.int .i64 0)), none⟩])
     (.block 0 (.loop (.seq (.seq (.ops [⟨some 7, .move (.tmp 5), none⟩,
           ⟨some 8, .move (.tmp 0), none⟩,
           ⟨some 9, .lenSl (.tmp 8), none⟩,
           ⟨some 10, .bin .lss (.tmp 7) (.tmp 9), none⟩])
         (.cond (.tmp 10)
          (.skip)
          (.exit 0)))
        (.seq (.block 1 (.seq (.draw [(⟨some 13, .move (.tmp 5), none⟩, []),
             (⟨some 14, .bin .eql (.tmp 13) (.const (.int .i64 0)), none⟩, []),
             (⟨some 15, .move (.tmp 14), none⟩, []),
             (⟨some 16, .move (.tmp 0), some (15, false)⟩, []),
             (⟨some 17, .move (.tmp 5), some (15, false)⟩, []),
             (⟨some 18, .idxSl 4 (.tmp 16) (.tmp 17), some (15, false)⟩, []),
             (⟨some 19, .fieldAddr 1 (.tmp 18), some (15, false)⟩, []),
             (⟨some 20, .loadN 2 (.tmp 19), some (15, false)⟩, []),
             (⟨some 21, .fieldAddr 1 (.tmp 4), some (15, false)⟩, []),
             (⟨some 22, .loadN 2 (.tmp 21), some (15, false)⟩, []),
             (⟨some 23, .call (F 14) [.tmp 20, .tmp 22], some (15, false)⟩, []),
             (⟨some 24, .bin .gtr (.tmp 23) (.const (.int .i64 0)), some (15, false)⟩, []),
             (⟨some 25, .pick (.tmp 15) (.const (.bool true)) (.tmp 24), none⟩, [])])
           (.cond (.tmp 25)
            (.ops [⟨some 26, .move (.tmp 0), none⟩,
              ⟨some 27, .move (.tmp 5), none⟩,
              ⟨some 28, .idxSl 4 (.tmp 26) (.tmp 27), none⟩,
              ⟨some 29, .loadN 4 (.tmp 28), none⟩,
              ⟨none, .store 4 (.tmp 4) (.tmp 29), none⟩])
            (.skip))))
         (.ops [⟨some 11, .move (.tmp 5), none⟩,
           ⟨some 12, .bin .add (.tmp 11) (.const (.int .i64 1)), none⟩,
           ⟨some 5, .move (.tmp 12), none⟩]))))))
    (.seq (.ops [⟨some 30, .loadN 4 (.tmp 4), none⟩,
       ⟨some 31, .move (.tmp 0), none⟩,
       ⟨some 32, .lenSl (.tmp 31), none⟩,
       ⟨some 33, .bin .gtr (.tmp 32) (.const (.int .i64 0)), none⟩,
       ⟨none, .store 4 (.tmp 2) (.tmp 30), none⟩,
       ⟨some 3, .move (.tmp 33), none⟩])
     (.ret))))⟩
/-- hurdle/hurdlelaw16.awake -/
def c_hurdlelaw16_awake (F : Nat → FuncId) (Ty : Nat → TypeId) : IFunc := ⟨59, [.tmp 0],
 .seq (.ops [⟨some 0, .move (.const (.bool false)), none⟩])
  (.seq (.ops [⟨some 5, .build [.int .i64 0, .int .i64 0] [((0, 1), .const (.int .i64 1)), ((1, 1), .const (.int .i64 2))], none⟩,
     ⟨some 6, .build [.int .i64 0, .int .i64 0] [((0, 1), .const (.int .i64 2))], none⟩,
     ⟨some 1, .alloc [.int .i64 0, .int .i64 0], none⟩,
     ⟨some 2, .alloc [.int .i64 0, .int .i64 0], none⟩,
     ⟨none, .store 2 (.tmp 1) (.tmp 5), none⟩,
     ⟨none, .store 2 (.tmp 2) (.tmp 6), none⟩])
   (.seq (.ops [⟨some 8, .loadN 2 (.tmp 1), none⟩,
      ⟨some 9, .build [.int .i64 0, .int .i64 0, .int .i64 0, .string ⟨#[]⟩] [((1, 2), .tmp 8), ((3, 1), .const (.string ⟨#[97]⟩))], none⟩,
      ⟨some 10, .loadN 2 (.tmp 2), none⟩,
      ⟨some 11, .build [.int .i64 0, .int .i64 0, .int .i64 0, .string ⟨#[]⟩] [((1, 2), .tmp 10), ((3, 1), .const (.string ⟨#[98]⟩))], none⟩,
      ⟨some 12, .buildSlice 2 [.int .i64 0, .int .i64 0, .int .i64 0, .string ⟨#[]⟩, .int .i64 0, .int .i64 0, .int .i64 0, .string ⟨#[]⟩] [((0, 4), .tmp 9), ((4, 4), .tmp 11)], none⟩,
      ⟨some 13, .call (F 10) [.tmp 12], none⟩,
      ⟨some 7, .move (.tmp 13), none⟩,
      ⟨some 14, .extract (.tmp 7) 0, none⟩,
      ⟨some 15, .extract (.tmp 7) 1, none⟩,
      ⟨some 3, .alloc [.int .i64 0, .int .i64 0, .int .i64 0, .string ⟨#[]⟩], none⟩,
      ⟨none, .store 4 (.tmp 3) (.tmp 14), none⟩,
      ⟨some 4, .move (.tmp 15), none⟩])
    (.seq (.draw [(⟨some 16, .loadN 2 (.tmp 1), none⟩, []),
       (⟨some 17, .loadN 2 (.tmp 2), none⟩, []),
       (⟨some 18, .call (F 4) [.tmp 16, .tmp 17], none⟩, []),
       (⟨some 19, .bin .eql (.tmp 18) (.const (.int .i64 (-1))), none⟩, []),
       (⟨some 20, .move (.tmp 19), none⟩, []),
       (⟨some 21, .loadN 2 (.tmp 1), some (20, true)⟩, []),
       (⟨some 23, .build [.int .i64 0, .int .i64 0] [((0, 1), .const (.int .i64 2)), ((1, 1), .const (.int .i64 1))], some (20, true)⟩, []),
       (⟨some 22, .call (F 6) [.tmp 21, .const (.int .i64 1)], some (20, true)⟩, []),
       (⟨some 24, .eqv false [.i .i64, .i .i64] (.tmp 22) (.tmp 23), some (20, true)⟩, []),
       (⟨some 25, .pick (.tmp 20) (.tmp 24) (.const (.bool false)), none⟩, []),
       (⟨some 26, .move (.tmp 25), none⟩, []),
       (⟨some 27, .loadN 2 (.tmp 1), some (26, true)⟩, []),
       (⟨some 28, .loadN 2 (.tmp 2), some (26, true)⟩, []),
       (⟨some 29, .buildSlice 2 [.int .i64 0, .int .i64 0, .int .i64 0, .int .i64 0] [((0, 2), .tmp 27), ((2, 2), .tmp 28)], some (26, true)⟩, []),
       (⟨some 31, .loadN 2 (.tmp 2), some (26, true)⟩, []),
       (⟨some 30, .call (F 9) [.tmp 29], some (26, true)⟩, [⟨some 31, .loadN 2 (.tmp 2), some (26, true)⟩]),
       (⟨some 32, .eqv false [.i .i64, .i .i64] (.tmp 30) (.tmp 31), some (26, true)⟩, []),
       (⟨some 33, .pick (.tmp 26) (.tmp 32) (.const (.bool false)), none⟩, []),
       (⟨some 34, .move (.tmp 33), none⟩, []),
       (⟨some 35, .call (F 7) [.const (.int .i64 5)], some (34, true)⟩, []),
       (⟨some 36, .bin .eql (.tmp 35) (.const (.int .i64 3)), some (34, true)⟩, []),
       (⟨some 37, .pick (.tmp 34) (.tmp 36) (.const (.bool false)), none⟩, []),
       (⟨some 38, .move (.tmp 37), none⟩, []),
       (⟨some 39, .call (F 7) [.const (.int .i64 8)], some (38, true)⟩, []),
       (⟨some 40, .bin .eql (.tmp 39) (.const (.int .i64 0)), some (38, true)⟩, []),
       (⟨some 41, .pick (.tmp 38) (.tmp 40) (.const (.bool false)), none⟩, []),
       (⟨some 42, .move (.tmp 41), none⟩, []),
       (⟨some 43, .fieldAddr 3 (.tmp 3), some (42, true)⟩, []),
       (⟨some 44, .load1 (.tmp 43), some (42, true)⟩, []),
       (⟨some 45, .bin .eql (.tmp 44) (.const (.string ⟨#[98]⟩)), some (42, true)⟩, []),
       (⟨some 46, .pick (.tmp 42) (.tmp 45) (.const (.bool false)), none⟩, []),
       (⟨some 47, .move (.tmp 46), none⟩, []),
       (⟨some 48, .move (.tmp 4), some (47, true)⟩, []),
       (⟨some 49, .pick (.tmp 47) (.tmp 48) (.const (.bool false)), none⟩, []),
       (⟨some 50, .move (.tmp 49), none⟩, []),
       (⟨some 51, .loadN 2 (.tmp 1), some (50, true)⟩, []),
       (⟨some 52, .call (F 5) [.tmp 51], some (50, true)⟩, []),
       (⟨some 53, .pick (.tmp 50) (.tmp 52) (.const (.bool false)), none⟩, []),
       (⟨some 54, .move (.tmp 53), none⟩, []),
       (⟨some 55, .build [.int .i64 0, .int .i64 0] [((1, 1), .const (.int .i64 7))], some (54, true)⟩, []),
       (⟨some 56, .call (F 5) [.tmp 55], some (54, true)⟩, []),
       (⟨some 57, .un .not (.tmp 56), some (54, true)⟩, []),
       (⟨some 58, .pick (.tmp 54) (.tmp 57) (.const (.bool false)), none⟩, []),
       (⟨some 0, .move (.tmp 58), none⟩, [])])
     (.ret))))⟩
/-- hurdle/hurdlelaw16.BallotCmps -/
def c_hurdlelaw16_BallotCmps (F : Nat → FuncId) (Ty : Nat → TypeId) : IFunc := ⟨40, [.tmp 6],
 .seq (.ops [⟨some 3, .box (.tmp 0), none⟩,
    ⟨some 4, .box (.tmp 1), none⟩,
    ⟨some 6, .move (.const (.bool false)), none⟩])
  (.seq (.draw [(⟨some 7, .loadN 2 (.tmp 3), none⟩, []),
     (⟨some 8, .loadN 2 (.tmp 4), none⟩, []),
     (⟨some 10, .loadN 2 (.tmp 3), none⟩, []),
     (⟨some 11, .loadN 2 (.tmp 4), none⟩, []),
     (⟨some 9, .call (F 4) [.tmp 7, .tmp 8], none⟩, [⟨some 10, .loadN 2 (.tmp 3), none⟩, ⟨some 11, .loadN 2 (.tmp 4), none⟩]),
     (⟨some 12, .call (F 14) [.tmp 10, .tmp 11], none⟩, []),
     (⟨some 13, .bin .eql (.tmp 9) (.tmp 12), none⟩, []),
     (⟨some 14, .move (.tmp 13), none⟩, []),
     (⟨some 15, .loadN 2 (.tmp 3), some (14, true)⟩, []),
     (⟨some 17, .loadN 2 (.tmp 3), some (14, true)⟩, []),
     (⟨some 16, .call (F 5) [.tmp 15], some (14, true)⟩, [⟨some 17, .loadN 2 (.tmp 3), some (14, true)⟩]),
     (⟨some 18, .call (F 15) [.tmp 17], some (14, true)⟩, []),
     (⟨some 19, .eqv false [] (.tmp 16) (.tmp 18), some (14, true)⟩, []),
     (⟨some 20, .pick (.tmp 14) (.tmp 19) (.const (.bool false)), none⟩, []),
     (⟨some 21, .move (.tmp 20), none⟩, []),
     (⟨some 22, .loadN 2 (.tmp 3), some (21, true)⟩, []),
     (⟨some 23, .move (.tmp 2), some (21, true)⟩, []),
     (⟨some 25, .loadN 2 (.tmp 3), some (21, true)⟩, []),
     (⟨some 26, .move (.tmp 2), some (21, true)⟩, []),
     (⟨some 24, .call (F 6) [.tmp 22, .tmp 23], some (21, true)⟩, [⟨some 25, .loadN 2 (.tmp 3), some (21, true)⟩]),
     (⟨some 27, .call (F 16) [.tmp 25, .tmp 26], some (21, true)⟩, []),
     (⟨some 28, .eqv false [.i .i64, .i .i64] (.tmp 24) (.tmp 27), some (21, true)⟩, []),
     (⟨some 29, .pick (.tmp 21) (.tmp 28) (.const (.bool false)), none⟩, []),
     (⟨some 30, .move (.tmp 29), none⟩, []),
     (⟨some 31, .move (.tmp 2), some (30, true)⟩, []),
     (⟨some 33, .move (.tmp 2), some (30, true)⟩, []),
     (⟨some 32, .call (F 7) [.tmp 31], some (30, true)⟩, []),
     (⟨some 34, .call (F 18) [.tmp 33], some (30, true)⟩, []),
     (⟨some 35, .bin .eql (.tmp 32) (.tmp 34), some (30, true)⟩, []),
     (⟨some 36, .pick (.tmp 30) (.tmp 35) (.const (.bool false)), none⟩, []),
     (⟨some 37, .move (.tmp 36), none⟩, []),
     (⟨some 38, .call (F 20) [], some (37, true)⟩, []),
     (⟨some 39, .pick (.tmp 37) (.tmp 38) (.const (.bool false)), none⟩, []),
     (⟨some 6, .move (.tmp 39), none⟩, [])])
   (.ret))⟩
/-- hurdle/hurdlelaw16.BallotPicks -/
def c_hurdlelaw16_BallotPicks (F : Nat → FuncId) (Ty : Nat → TypeId) : IFunc := ⟨46, [.tmp 4],
 .seq (.ops [⟨some 4, .move (.const (.bool false)), none⟩])
  (.seq (.seq (.ops [⟨some 9, .move (.tmp 0), none⟩,
      ⟨some 10, .lenSl (.tmp 9), none⟩,
      ⟨some 11, .bin .gtr (.tmp 10) (.const (.int .i64 1000)), none⟩,
      ⟨some 12, .move (.tmp 11), none⟩,
      ⟨some 13, .move (.tmp 1), some (12, false)⟩,
      ⟨some 14, .lenSl (.tmp 13), some (12, false)⟩,
      ⟨some 15, .bin .gtr (.tmp 14) (.const (.int .i64 1000)), some (12, false)⟩,
      ⟨some 16, .pick (.tmp 12) (.const (.bool true)) (.tmp 15), none⟩])
    (.cond (.tmp 16)
     (.seq (.ops [⟨some 17, .call (F 20) [], none⟩,
        ⟨some 4, .move (.tmp 17), none⟩])
      (.ret))
     (.skip)))
   (.seq (.ops [⟨some 19, .move (.tmp 1), none⟩,
      ⟨some 20, .call (F 10) [.tmp 19], none⟩,
      ⟨some 18, .move (.tmp 20), none⟩,
      ⟨some 21, .extract (.tmp 18) 0, none⟩,
      ⟨some 22, .extract (.tmp 18) 1, none⟩,
      ⟨some 5, .alloc [.int .i64 0, .int .i64 0, .int .i64 0, .string ⟨#[]⟩], none⟩,
      ⟨none, .store 4 (.tmp 5) (.tmp 21), none⟩,
      ⟨some 6, .move (.tmp 22), none⟩])
    (.seq (.ops [⟨some 24, .move (.tmp 1), none⟩,
       ⟨some 25, .call (F 19) [.tmp 24], none⟩,
       ⟨some 23, .move (.tmp 25), none⟩,
       ⟨some 26, .extract (.tmp 23) 0, none⟩,
       ⟨some 27, .extract (.tmp 23) 1, none⟩,
       ⟨some 7, .alloc [.int .i64 0, .int .i64 0, .int .i64 0, .string ⟨#[]⟩], none⟩,
       ⟨none, .store 4 (.tmp 7) (.tmp 26), none⟩,
       ⟨some 8, .move (.tmp 27), none⟩])
     (.seq (.ops [⟨some 28, .move (.tmp 0), none⟩,
        ⟨some 29, .call (F 9) [.tmp 28], none⟩,
        ⟨some 30, .move (.tmp 0), none⟩,
        ⟨some 31, .call (F 17) [.tmp 30], none⟩,
        ⟨some 32, .eqv false [.i .i64, .i .i64] (.tmp 29) (.tmp 31), none⟩,
        ⟨some 33, .move (.tmp 32), none⟩,
        ⟨some 34, .loadN 4 (.tmp 5), some (33, true)⟩,
        ⟨some 35, .loadN 4 (.tmp 7), some (33, true)⟩,
        ⟨some 36, .eqv false [.i .i64, .i .i64, .i .i64, .s] (.tmp 34) (.tmp 35), some (33, true)⟩,
        ⟨some 37, .pick (.tmp 33) (.tmp 36) (.const (.bool false)), none⟩,
        ⟨some 38, .move (.tmp 37), none⟩,
        ⟨some 39, .move (.tmp 6), some (38, true)⟩,
        ⟨some 40, .move (.tmp 8), some (38, true)⟩,
        ⟨some 41, .eqv false [] (.tmp 39) (.tmp 40), some (38, true)⟩,
        ⟨some 42, .pick (.tmp 38) (.tmp 41) (.const (.bool false)), none⟩,
        ⟨some 43, .move (.tmp 42), none⟩,
        ⟨some 44, .call (F 20) [], some (43, true)⟩,
        ⟨some 45, .pick (.tmp 43) (.tmp 44) (.const (.bool false)), none⟩,
        ⟨some 4, .move (.tmp 45), none⟩])
      (.ret)))))⟩
/-- hurdle/hurdlelaw16.BallotOrder -/
def c_hurdlelaw16_BallotOrder (F : Nat → FuncId) (Ty : Nat → TypeId) : IFunc := ⟨80, [.tmp 6],
 .seq (.ops [⟨some 3, .box (.tmp 0), none⟩,
    ⟨some 4, .box (.tmp 1), none⟩,
    ⟨some 5, .box (.tmp 2), none⟩,
    ⟨some 6, .move (.const (.bool false)), none⟩])
  (.seq (.draw [(⟨some 10, .loadN 2 (.tmp 3), none⟩, []),
     (⟨some 11, .loadN 2 (.tmp 4), none⟩, []),
     (⟨some 13, .loadN 2 (.tmp 4), none⟩, []),
     (⟨some 14, .loadN 2 (.tmp 5), none⟩, []),
     (⟨some 16, .loadN 2 (.tmp 3), none⟩, []),
     (⟨some 17, .loadN 2 (.tmp 5), none⟩, []),
     (⟨some 12, .call (F 4) [.tmp 10, .tmp 11], none⟩, [⟨some 13, .loadN 2 (.tmp 4), none⟩, ⟨some 14, .loadN 2 (.tmp 5), none⟩, ⟨some 16, .loadN 2 (.tmp 3), none⟩, ⟨some 17, .loadN 2 (.tmp 5), none⟩]),
     (⟨some 15, .call (F 4) [.tmp 13, .tmp 14], none⟩, [⟨some 16, .loadN 2 (.tmp 3), none⟩, ⟨some 17, .loadN 2 (.tmp 5), none⟩]),
     (⟨some 18, .call (F 4) [.tmp 16, .tmp 17], none⟩, []),
     (⟨some 7, .move (.tmp 12), none⟩, []),
     (⟨some 8, .move (.tmp 15), none⟩, []),
     (⟨some 9, .move (.tmp 18), none⟩, [])])
   (.seq (.ops [⟨some 19, .loadN 2 (.tmp 4), none⟩,
      ⟨some 20, .loadN 2 (.tmp 3), none⟩,
      ⟨some 21, .call (F 4) [.tmp 19, .tmp 20], none⟩,
      ⟨some 22, .move (.tmp 7), none⟩,
      ⟨some 23, .un .neg (.tmp 22), none⟩,
      ⟨some 24, .bin .eql (.tmp 21) (.tmp 23), none⟩,
      ⟨some 25, .move (.tmp 24), none⟩,
      ⟨some 26, .move (.tmp 7), some (25, true)⟩,
      ⟨some 27, .bin .eql (.tmp 26) (.const (.int .i64 0)), some (25, true)⟩,
      ⟨some 28, .loadN 2 (.tmp 3), some (25, true)⟩,
      ⟨some 29, .loadN 2 (.tmp 4), some (25, true)⟩,
      ⟨some 30, .eqv false [.i .i64, .i .i64] (.tmp 28) (.tmp 29), some (25, true)⟩,
      ⟨some 31, .eqv false [] (.tmp 27) (.tmp 30), some (25, true)⟩,
      ⟨some 32, .pick (.tmp 25) (.tmp 31) (.const (.bool false)), none⟩,
      ⟨some 33, .move (.tmp 32), none⟩,
      ⟨some 34, .move (.tmp 7), some (33, true)⟩,
      ⟨some 35, .bin .lss (.tmp 34) (.const (.int .i64 0)), some (33, true)⟩,
      ⟨some 36, .move (.tmp 35), some (33, true)⟩,
      ⟨some 37, .move (.tmp 8), some (36, false)⟩,
      ⟨some 38, .bin .lss (.tmp 37) (.const (.int .i64 0)), some (36, false)⟩,
      ⟨some 39, .pick (.tmp 36) (.const (.bool true)) (.tmp 38), some (33, true)⟩,
      ⟨some 40, .move (.tmp 39), some (33, true)⟩,
      ⟨some 41, .move (.tmp 7), some (40, false)⟩,
      ⟨some 42, .bin .gtr (.tmp 41) (.const (.int .i64 0)), some (40, false)⟩,
      ⟨some 43, .pick (.tmp 40) (.const (.bool true)) (.tmp 42), some (33, true)⟩,
      ⟨some 44, .move (.tmp 43), some (33, true)⟩,
      ⟨some 45, .move (.tmp 8), some (44, false)⟩,
      ⟨some 46, .bin .gtr (.tmp 45) (.const (.int .i64 0)), some (44, false)⟩,
      ⟨some 47, .pick (.tmp 44) (.const (.bool true)) (.tmp 46), some (33, true)⟩,
      ⟨some 48, .move (.tmp 47), some (33, true)⟩,
      ⟨some 49, .move (.tmp 9), some (48, false)⟩,
      ⟨some 50, .bin .eql (.tmp 49) (.const (.int .i64 0)), some (48, false)⟩,
      ⟨some 51, .pick (.tmp 48) (.const (.bool true)) (.tmp 50), some (33, true)⟩,
      ⟨some 52, .pick (.tmp 33) (.tmp 51) (.const (.bool false)), none⟩,
      ⟨some 53, .move (.tmp 52), none⟩,
      ⟨some 54, .move (.tmp 7), some (53, true)⟩,
      ⟨some 55, .bin .gtr (.tmp 54) (.const (.int .i64 0)), some (53, true)⟩,
      ⟨some 56, .move (.tmp 55), some (53, true)⟩,
      ⟨some 57, .move (.tmp 8), some (56, false)⟩,
      ⟨some 58, .bin .gtr (.tmp 57) (.const (.int .i64 0)), some (56, false)⟩,
      ⟨some 59, .pick (.tmp 56) (.const (.bool true)) (.tmp 58), some (53, true)⟩,
      ⟨some 60, .move (.tmp 59), some (53, true)⟩,
      ⟨some 61, .move (.tmp 9), some (60, false)⟩,
      ⟨some 62, .bin .leq (.tmp 61) (.const (.int .i64 0)), some (60, false)⟩,
      ⟨some 63, .pick (.tmp 60) (.const (.bool true)) (.tmp 62), some (53, true)⟩,
      ⟨some 64, .pick (.tmp 53) (.tmp 63) (.const (.bool false)), none⟩,
      ⟨some 65, .move (.tmp 64), none⟩,
      ⟨some 66, .move (.tmp 7), some (65, true)⟩,
      ⟨some 67, .bin .lss (.tmp 66) (.const (.int .i64 0)), some (65, true)⟩,
      ⟨some 68, .move (.tmp 67), some (65, true)⟩,
      ⟨some 69, .move (.tmp 8), some (68, false)⟩,
      ⟨some 70, .bin .lss (.tmp 69) (.const (.int .i64 0)), some (68, false)⟩,
      ⟨some 71, .pick (.tmp 68) (.const (.bool true)) (.tmp 70), some (65, true)⟩,
      ⟨some 72, .move (.tmp 71), some (65, true)⟩,
      ⟨some 73, .move (.tmp 9), some (72, false)⟩,
      ⟨some 74, .bin .geq (.tmp 73) (.const (.int .i64 0)), some (72, false)⟩,
      ⟨some 75, .pick (.tmp 72) (.const (.bool true)) (.tmp 74), some (65, true)⟩,
      ⟨some 76, .pick (.tmp 65) (.tmp 75) (.const (.bool false)), none⟩,
      ⟨some 77, .move (.tmp 76), none⟩,
      ⟨some 78, .call (F 20) [], some (77, true)⟩,
      ⟨some 79, .pick (.tmp 77) (.tmp 78) (.const (.bool false)), none⟩,
      ⟨some 6, .move (.tmp 79), none⟩])
    (.ret)))⟩
/-- hurdle/hurdlelaw16.BallotNext -/
def c_hurdlelaw16_BallotNext (F : Nat → FuncId) (Ty : Nat → TypeId) : IFunc := ⟨43, [.tmp 4],
 .seq (.ops [⟨some 2, .box (.tmp 0), none⟩,
    ⟨some 4, .move (.const (.bool false)), none⟩])
  (.seq (.ops [⟨some 6, .loadN 2 (.tmp 2), none⟩,
     ⟨some 7, .move (.tmp 1), none⟩,
     ⟨some 8, .call (F 6) [.tmp 6, .tmp 7], none⟩,
     ⟨some 5, .alloc [.int .i64 0, .int .i64 0], none⟩,
     ⟨none, .store 2 (.tmp 5) (.tmp 8), none⟩])
   (.seq (.seq (.ops [⟨some 9, .loadN 2 (.tmp 2), none⟩,
       ⟨some 10, .call (F 5) [.tmp 9], none⟩,
       ⟨some 11, .un .not (.tmp 10), none⟩,
       ⟨some 12, .move (.tmp 11), none⟩,
       ⟨some 13, .fieldAddr 0 (.tmp 2), some (12, false)⟩,
       ⟨some 14, .load1 (.tmp 13), some (12, false)⟩,
       ⟨some 15, .bin .eql (.tmp 14) (.const (.int .i64 2147483647)), some (12, false)⟩,
       ⟨some 16, .pick (.tmp 12) (.const (.bool true)) (.tmp 15), none⟩,
       ⟨some 17, .move (.tmp 16), none⟩,
       ⟨some 18, .move (.tmp 1), some (17, false)⟩,
       ⟨some 19, .bin .lss (.tmp 18) (.const (.int .i64 0)), some (17, false)⟩,
       ⟨some 20, .pick (.tmp 17) (.const (.bool true)) (.tmp 19), none⟩,
       ⟨some 21, .move (.tmp 20), none⟩,
       ⟨some 22, .move (.tmp 1), some (21, false)⟩,
       ⟨some 23, .bin .geq (.tmp 22) (.const (.int .i64 7)), some (21, false)⟩,
       ⟨some 24, .pick (.tmp 21) (.const (.bool true)) (.tmp 23), none⟩])
     (.cond (.tmp 24)
      (.seq (.ops [⟨some 25, .call (F 20) [], none⟩,
         ⟨some 4, .move (.tmp 25), none⟩])
       (.ret))
      (.skip)))
    (.seq (.ops [⟨some 26, .loadN 2 (.tmp 5), none⟩,
       ⟨some 27, .loadN 2 (.tmp 2), none⟩,
       ⟨some 28, .call (F 4) [.tmp 26, .tmp 27], none⟩,
       ⟨some 29, .bin .gtr (.tmp 28) (.const (.int .i64 0)), none⟩,
       ⟨some 30, .move (.tmp 29), none⟩,
       ⟨some 31, .fieldAddr 1 (.tmp 5), some (30, true)⟩,
       ⟨some 32, .load1 (.tmp 31), some (30, true)⟩,
       ⟨some 33, .move (.tmp 1), some (30, true)⟩,
       ⟨some 34, .bin .eql (.tmp 32) (.tmp 33), some (30, true)⟩,
       ⟨some 35, .pick (.tmp 30) (.tmp 34) (.const (.bool false)), none⟩,
       ⟨some 36, .move (.tmp 35), none⟩,
       ⟨some 37, .loadN 2 (.tmp 5), some (36, true)⟩,
       ⟨some 38, .call (F 5) [.tmp 37], some (36, true)⟩,
       ⟨some 39, .pick (.tmp 36) (.tmp 38) (.const (.bool false)), none⟩,
       ⟨some 40, .move (.tmp 39), none⟩,
       ⟨some 41, .call (F 20) [], some (40, true)⟩,
       ⟨some 42, .pick (.tmp 40) (.tmp 41) (.const (.bool false)), none⟩,
       ⟨some 4, .move (.tmp 42), none⟩])
     (.ret))))⟩
/-- hurdle/hurdlelaw16.BallotQuorums -/
def c_hurdlelaw16_BallotQuorums (F : Nat → FuncId) (Ty : Nat → TypeId) : IFunc := ⟨29, [.tmp 2],
 .seq (.ops [⟨some 2, .move (.const (.bool false)), none⟩])
  (.seq (.ops [⟨some 4, .move (.tmp 0), none⟩,
     ⟨some 5, .call (F 7) [.tmp 4], none⟩,
     ⟨some 3, .move (.tmp 5), none⟩])
   (.seq (.seq (.ops [⟨some 6, .move (.tmp 0), none⟩,
       ⟨some 7, .bin .lss (.tmp 6) (.const (.int .i64 1)), none⟩,
       ⟨some 8, .move (.tmp 7), none⟩,
       ⟨some 9, .move (.tmp 0), some (8, false)⟩,
       ⟨some 10, .bin .gtr (.tmp 9) (.const (.int .i64 7)), some (8, false)⟩,
       ⟨some 11, .pick (.tmp 8) (.const (.bool true)) (.tmp 10), none⟩])
     (.cond (.tmp 11)
      (.seq (.ops [⟨some 12, .move (.tmp 3), none⟩,
         ⟨some 13, .bin .eql (.tmp 12) (.const (.int .i64 0)), none⟩,
         ⟨some 14, .move (.tmp 13), none⟩,
         ⟨some 15, .call (F 20) [], some (14, true)⟩,
         ⟨some 16, .pick (.tmp 14) (.tmp 15) (.const (.bool false)), none⟩,
         ⟨some 2, .move (.tmp 16), none⟩])
       (.ret))
      (.skip)))
    (.seq (.ops [⟨some 17, .move (.tmp 3), none⟩,
       ⟨some 18, .bin .mul (.const (.int .i64 2)) (.tmp 17), none⟩,
       ⟨some 19, .move (.tmp 0), none⟩,
       ⟨some 20, .bin .gtr (.tmp 18) (.tmp 19), none⟩,
       ⟨some 21, .move (.tmp 20), none⟩,
       ⟨some 22, .move (.tmp 3), some (21, true)⟩,
       ⟨some 23, .move (.tmp 0), some (21, true)⟩,
       ⟨some 24, .bin .leq (.tmp 22) (.tmp 23), some (21, true)⟩,
       ⟨some 25, .pick (.tmp 21) (.tmp 24) (.const (.bool false)), none⟩,
       ⟨some 26, .move (.tmp 25), none⟩,
       ⟨some 27, .call (F 20) [], some (26, true)⟩,
       ⟨some 28, .pick (.tmp 26) (.tmp 27) (.const (.bool false)), none⟩,
       ⟨some 2, .move (.tmp 28), none⟩])
     (.ret))))⟩
/-- A context has these functions. -/
structure HasBallot (c : Ctx) : Prop where
  cmp_isNaN_int : c.IP (c.F 1) = some (c_cmp_isNaN_int c.F c.Ty)
  cmp_Compare_int : c.IP (c.F 2) = some (c_cmp_Compare_int c.F c.Ty)
  cmp_Or_int : c.IP (c.F 3) = some (c_cmp_Or_int c.F c.Ty)
  ballot_Cmp : c.IP (c.F 4) = some (c_ballot_Cmp c.F c.Ty)
  ballot_Valid : c.IP (c.F 5) = some (c_ballot_Valid c.F c.Ty)
  ballot_Next : c.IP (c.F 6) = some (c_ballot_Next c.F c.Ty)
  ballot_Quorum : c.IP (c.F 7) = some (c_ballot_Quorum c.F c.Ty)
  ballot_greatest : c.IP (c.F 8) = some (c_ballot_greatest c.F c.Ty)
  ballot_Max : c.IP (c.F 9) = some (c_ballot_Max c.F c.Ty)
  ballot_Pick : c.IP (c.F 10) = some (c_ballot_Pick c.F c.Ty)
  ballot_Pick_F1 : c.IP (c.F 11) = some (c_ballot_Pick_F1 c.F c.Ty)
  slices_MaxFunc_api_Vote_api_Vote : c.IP (c.F 12) = some (c_slices_MaxFunc_api_Vote_api_Vote c.F c.Ty)
  slices_MaxFunc_api_Ballot_api_Ballot : c.IP (c.F 13) = some (c_slices_MaxFunc_api_Ballot_api_Ballot c.F c.Ty)
  hurdleref16_Cmp : c.IP (c.F 14) = some (c_hurdleref16_Cmp c.F c.Ty)
  hurdleref16_Valid : c.IP (c.F 15) = some (c_hurdleref16_Valid c.F c.Ty)
  hurdleref16_Next : c.IP (c.F 16) = some (c_hurdleref16_Next c.F c.Ty)
  hurdleref16_Max : c.IP (c.F 17) = some (c_hurdleref16_Max c.F c.Ty)
  hurdleref16_Quorum : c.IP (c.F 18) = some (c_hurdleref16_Quorum c.F c.Ty)
  hurdleref16_Pick : c.IP (c.F 19) = some (c_hurdleref16_Pick c.F c.Ty)
  hurdlelaw16_awake : c.IP (c.F 20) = some (c_hurdlelaw16_awake c.F c.Ty)
  hurdlelaw16_BallotCmps : c.IP (c.F 21) = some (c_hurdlelaw16_BallotCmps c.F c.Ty)
  hurdlelaw16_BallotPicks : c.IP (c.F 22) = some (c_hurdlelaw16_BallotPicks c.F c.Ty)
  hurdlelaw16_BallotOrder : c.IP (c.F 23) = some (c_hurdlelaw16_BallotOrder c.F c.Ty)
  hurdlelaw16_BallotNext : c.IP (c.F 24) = some (c_hurdlelaw16_BallotNext c.F c.Ty)
  hurdlelaw16_BallotQuorums : c.IP (c.F 25) = some (c_hurdlelaw16_BallotQuorums c.F c.Ty)

end Go.Proofs.YthjdkcncnkcfaaaI
