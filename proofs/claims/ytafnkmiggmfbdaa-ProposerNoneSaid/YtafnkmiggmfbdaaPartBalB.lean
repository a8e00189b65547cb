/- PRINTED by gen.py (this session's own): the intermediate form of some functions, and a context's having them. -/
import Derived.Test.YtafnkmiggmfbdaaPartBalA
namespace Go.Proofs.YtafnkmiggmfbdaaI
set_option linter.unusedSimpArgs false
set_option linter.unusedVariables false
open Go

/-- hurdle/ballot.Quorum -/
abbrev n_ballot_Quorum : Nat := 7
/-- hurdle/hurdleref16.Quorum -/
abbrev n_hurdleref16_Quorum : Nat := 18
/-- hurdle/ballot.Quorum -/
def c_ballot_Quorum (F : Nat → FuncId) (Ty : Nat → TypeId) : IFunc := ⟨12, [.tmp 2],
 .seq (.ops [⟨some 2, .move (.const (.int .i64 0)), none⟩])
 (.seq (.seq (.ops [⟨some 3, .move (.tmp 0), none⟩,
 ⟨some 4, .bin .lss (.tmp 3) (.const (.int .i64 1)), none⟩,
 ⟨some 5, .move (.tmp 4), none⟩,
 ⟨some 6, .move (.tmp 0), some (5, false)⟩,
 ⟨some 7, .bin .gtr (.tmp 6) (.const (.int .i64 7)), some (5, false)⟩,
 ⟨some 8, .pick (.tmp 5) (.const (.bool true)) (.tmp 7), none⟩])
 (.cond (.tmp 8)
 (.seq (.ops [⟨some 2, .move (.const (.int .i64 0)), none⟩])
 (.ret))
 (.skip)))
 (.seq (.ops [⟨some 9, .move (.tmp 0), none⟩,
 ⟨some 10, .bin .quo (.tmp 9) (.const (.int .i64 2)), none⟩,
 ⟨some 11, .bin .add (.tmp 10) (.const (.int .i64 1)), none⟩,
 ⟨some 2, .move (.tmp 11), none⟩])
 (.ret)))⟩
/-- hurdle/hurdleref16.Quorum -/
def c_hurdleref16_Quorum (F : Nat → FuncId) (Ty : Nat → TypeId) : IFunc := ⟨12, [.tmp 2],
 .seq (.ops [⟨some 2, .move (.const (.int .i64 0)), none⟩])
 (.seq (.seq (.ops [⟨some 3, .move (.tmp 0), none⟩,
 ⟨some 4, .bin .lss (.tmp 3) (.const (.int .i64 1)), none⟩,
 ⟨some 5, .move (.tmp 4), none⟩,
 ⟨some 6, .move (.tmp 0), some (5, false)⟩,
 ⟨some 7, .bin .gtr (.tmp 6) (.const (.int .i64 7)), some (5, false)⟩,
 ⟨some 8, .pick (.tmp 5) (.const (.bool true)) (.tmp 7), none⟩])
 (.cond (.tmp 8)
 (.seq (.ops [⟨some 2, .move (.const (.int .i64 0)), none⟩])
 (.ret))
 (.skip)))
 (.seq (.ops [⟨some 9, .move (.tmp 0), none⟩,
 ⟨some 10, .bin .quo (.tmp 9) (.const (.int .i64 2)), none⟩,
 ⟨some 11, .bin .add (.tmp 10) (.const (.int .i64 1)), none⟩,
 ⟨some 2, .move (.tmp 11), none⟩])
 (.ret)))⟩
/-- A context has these functions. -/
structure HasBalB (c : Ctx) : Prop where
 ballot_Quorum : c.IP (c.F 7) = some (c_ballot_Quorum c.F c.Ty)
 hurdleref16_Quorum : c.IP (c.F 18) = some (c_hurdleref16_Quorum c.F c.Ty)

end Go.Proofs.YtafnkmiggmfbdaaI
