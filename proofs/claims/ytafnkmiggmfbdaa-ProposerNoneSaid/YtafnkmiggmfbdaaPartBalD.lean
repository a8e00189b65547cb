/- PRINTED by gen.py (this session's own): the intermediate form of some functions, and a context's having them. -/
import Derived.Test.YtafnkmiggmfbdaaPartBalC
namespace Go.Proofs.YtafnkmiggmfbdaaI
set_option linter.unusedSimpArgs false
set_option linter.unusedVariables false
open Go

/-- hurdle/ballot.Next -/
abbrev n_ballot_Next : Nat := 6
/-- hurdle/ballot.Max -/
abbrev n_ballot_Max : Nat := 9
/-- hurdle/ballot.greatest -/
abbrev n_ballot_greatest : Nat := 8
/-- slices.MaxFunc[[]hurdle/api.Ballot,hurdle/api.Ballot] -/
abbrev n_slices_MaxFunc_api_Ballot_api_Ballot : Nat := 13
/-- hurdle/ballot.Next -/
def c_ballot_Next (F : Nat → FuncId) (Ty : Nat → TypeId) : IFunc := ⟨21, [.cellN 4 2],
 .seq (.ops [⟨some 2, .box (.tmp 0), none⟩,
 ⟨some 4, .alloc [.int .i64 0, .int .i64 0], none⟩])
 (.seq (.seq (.ops [⟨some 5, .fieldAddr 0 (.tmp 2), none⟩,
 ⟨some 6, .load1 (.tmp 5), none⟩,
 ⟨some 7, .bin .lss (.tmp 6) (.const (.int .i64 0)), none⟩,
 ⟨some 8, .move (.tmp 7), none⟩,
 ⟨some 9, .fieldAddr 0 (.tmp 2), some (8, false)⟩,
 ⟨some 10, .load1 (.tmp 9), some (8, false)⟩,
 ⟨some 11, .bin .geq (.tmp 10) (.const (.int .i64 2147483647)), some (8, false)⟩,
 ⟨some 12, .pick (.tmp 8) (.const (.bool true)) (.tmp 11), none⟩])
 (.cond (.tmp 12)
 (.seq (.ops [⟨some 13, .build [.int .i64 0, .int .i64 0] [], none⟩,
 ⟨none, .store 2 (.tmp 4) (.tmp 13), none⟩])
 (.ret))
 (.skip)))
 (.seq (.ops [⟨some 14, .fieldAddr 0 (.tmp 2), none⟩,
 ⟨some 15, .load1 (.tmp 14), none⟩,
 ⟨some 16, .bin .add (.tmp 15) (.const (.int .i64 1)), none⟩,
 ⟨some 17, .move (.tmp 1), none⟩,
 ⟨some 18, .mxn true (.tmp 17) (.const (.int .i64 0)), none⟩,
 ⟨some 19, .mxn false (.tmp 18) (.const (.int .i64 6)), none⟩,
 ⟨some 20, .build [.int .i64 0, .int .i64 0] [((0, 1), .tmp 16), ((1, 1), .tmp 19)], none⟩,
 ⟨none, .store 2 (.tmp 4) (.tmp 20), none⟩])
 (.ret)))⟩
/-- hurdle/ballot.Max -/
def c_ballot_Max (F : Nat → FuncId) (Ty : Nat → TypeId) : IFunc := ⟨9, [.cellN 2 2],
 .seq (.ops [⟨some 2, .alloc [.int .i64 0, .int .i64 0], none⟩])
 (.seq (.seq (.ops [⟨some 3, .move (.tmp 0), none⟩,
 ⟨some 4, .lenSl (.tmp 3), none⟩,
 ⟨some 5, .bin .eql (.tmp 4) (.const (.int .i64 0)), none⟩])
 (.cond (.tmp 5)
 (.seq (.ops [⟨some 6, .build [.int .i64 0, .int .i64 0] [], none⟩,
 ⟨none, .store 2 (.tmp 2) (.tmp 6), none⟩])
 (.ret))
 (.skip)))
 (.seq (.ops [⟨some 7, .move (.tmp 0), none⟩,
 ⟨some 8, .call (F 8) [.tmp 7], none⟩,
 ⟨none, .store 2 (.tmp 2) (.tmp 8), none⟩])
 (.ret)))⟩
/-- hurdle/ballot.greatest -/
def c_ballot_greatest (F : Nat → FuncId) (Ty : Nat → TypeId) : IFunc := ⟨5, [.cellN 2 2],
 .seq (.ops [⟨some 2, .alloc [.int .i64 0, .int .i64 0], none⟩])
 (.seq (.ops [⟨some 3, .move (.tmp 0), none⟩,
 ⟨some 4, .call (F 13) [.tmp 3, .func (F 4)], none⟩,
 ⟨none, .store 2 (.tmp 2) (.tmp 4), none⟩])
 (.ret))⟩
/-- slices.MaxFunc[[]hurdle/api.Ballot,hurdle/api.Ballot] -/
def c_slices_MaxFunc_api_Ballot_api_Ballot (F : Nat → FuncId) (Ty : Nat → TypeId) : IFunc := ⟨33, [.cellN 4 2],
 .seq (.ops [⟨some 4, .alloc [.int .i64 0, .int .i64 0], none⟩])
 (.seq (.seq (.ops [⟨some 7, .move (.tmp 0), none⟩,
 ⟨some 8, .lenSl (.tmp 7), none⟩,
 ⟨some 9, .bin .lss (.tmp 8) (.const (.int .i64 1)), none⟩])
 (.cond (.tmp 9)
 (.ops [⟨some 10, .mkIface (Ty 1) (.const (.string ⟨#[115, 108, 105, 99, 101, 115, 46, 77, 97, 120, 70, 117, 110, 99, 58, 32, 101, 109, 112, 116, 121, 32, 108, 105, 115, 116]⟩)), none⟩,
 ⟨none, .never, none⟩])
 (.skip)))
 (.seq (.ops [⟨some 11, .move (.tmp 0), none⟩,
 ⟨some 12, .idxSl 2 (.tmp 11) (.const (.int .i64 0)), none⟩,
 ⟨some 13, .loadN 2 (.tmp 12), none⟩,
 ⟨some 5, .alloc [.int .i64 0, .int .i64 0], none⟩,
 ⟨none, .store 2 (.tmp 5) (.tmp 13), none⟩])
 (.seq (.seq (.ops [⟨some 6, .move (.const (.int .i64 1)), none⟩])
 (.block 0 (.loop (.seq (.seq (.ops [⟨some 14, .move (.tmp 6), none⟩,
 ⟨some 15, .move (.tmp 0), none⟩,
 ⟨some 16, .lenSl (.tmp 15), none⟩,
 ⟨some 17, .bin .lss (.tmp 14) (.tmp 16), none⟩])
 (.cond (.tmp 17)
 (.skip)
 (.exit 0)))
 (.seq (.block 1 (.seq (.draw [(⟨some 20, .move (.tmp 1), none⟩, []),
 (⟨some 21, .move (.tmp 0), none⟩, []),
 (⟨some 22, .move (.tmp 6), none⟩, []),
 (⟨some 23, .idxSl 2 (.tmp 21) (.tmp 22), none⟩, []),
 (⟨some 24, .loadN 2 (.tmp 23), none⟩, []),
 (⟨some 25, .loadN 2 (.tmp 5), none⟩, []),
 (⟨some 26, .callDyn (.tmp 20) [.tmp 24, .tmp 25], none⟩, []),
 (⟨some 27, .bin .gtr (.tmp 26) (.const (.int .i64 0)), none⟩, [])])
 (.cond (.tmp 27)
 (.ops [⟨some 28, .move (.tmp 0), none⟩,
 ⟨some 29, .move (.tmp 6), none⟩,
 ⟨some 30, .idxSl 2 (.tmp 28) (.tmp 29), none⟩,
 ⟨some 31, .loadN 2 (.tmp 30), none⟩,
 ⟨none, .store 2 (.tmp 5) (.tmp 31), none⟩])
 (.skip))))
 (.ops [⟨some 18, .move (.tmp 6), none⟩,
 ⟨some 19, .bin .add (.tmp 18) (.const (.int .i64 1)), none⟩,
 ⟨some 6, .move (.tmp 19), none⟩]))))))
 (.seq (.ops [⟨some 32, .loadN 2 (.tmp 5), none⟩,
 ⟨none, .store 2 (.tmp 4) (.tmp 32), none⟩])
 (.ret)))))⟩
/-- A context has these functions. -/
structure HasBalD (c : Ctx) : Prop where
 ballot_Next : c.IP (c.F 6) = some (c_ballot_Next c.F c.Ty)
 ballot_Max : c.IP (c.F 9) = some (c_ballot_Max c.F c.Ty)
 ballot_greatest : c.IP (c.F 8) = some (c_ballot_greatest c.F c.Ty)
 slices_MaxFunc_api_Ballot_api_Ballot : c.IP (c.F 13) = some (c_slices_MaxFunc_api_Ballot_api_Ballot c.F c.Ty)

end Go.Proofs.YtafnkmiggmfbdaaI
