/- PRINTED by gen.py (this session's own): the intermediate form of some functions, and a context's having them. -/
import Derived.Test.YtdfjicnjcibdaaaIdealZ
namespace Go.Proofs.YtdfjicnjcibdaaaI
set_option linter.unusedSimpArgs false
set_option linter.unusedVariables false
open Go

/-- hurdle/hurdleref01.Ints -/
abbrev n_hurdleref01_Ints : Nat := 69
/-- hurdle/hurdleref01.Ints -/
def c_hurdleref01_Ints (F : Nat → FuncId) (Ty : Nat → TypeId) : IFunc := ⟨26, [.tmp 4],
 .seq (.ops [⟨some 4, .move (.const (.bool false)), none⟩])
 (.seq (.seq (.ops [⟨some 6, .move (.tmp 0), none⟩,
 ⟨some 7, .lenSl (.tmp 6), none⟩,
 ⟨some 8, .move (.tmp 1), none⟩,
 ⟨some 9, .lenSl (.tmp 8), none⟩,
 ⟨some 10, .bin .neq (.tmp 7) (.tmp 9), none⟩])
 (.cond (.tmp 10)
 (.seq (.ops [⟨some 4, .move (.const (.bool false)), none⟩])
 (.ret))
 (.skip)))
 (.seq (.seq (.ops [⟨some 5, .move (.const (.int .i64 0)), none⟩])
 (.block 0 (.loop (.seq (.seq (.ops [⟨some 11, .move (.tmp 5), none⟩,
 ⟨some 12, .move (.tmp 0), none⟩,
 ⟨some 13, .lenSl (.tmp 12), none⟩,
 ⟨some 14, .bin .lss (.tmp 11) (.tmp 13), none⟩])
 (.cond (.tmp 14)
 (.skip)
 (.exit 0)))
 (.seq (.block 1 (.seq (.draw [(⟨some 17, .move (.tmp 0), none⟩, []),
 (⟨some 18, .move (.tmp 5), none⟩, []),
 (⟨some 19, .idxSl 1 (.tmp 17) (.tmp 18), none⟩, []),
 (⟨some 20, .load1 (.tmp 19), none⟩, []),
 (⟨some 21, .move (.tmp 1), none⟩, []),
 (⟨some 22, .move (.tmp 5), none⟩, []),
 (⟨some 23, .idxSl 1 (.tmp 21) (.tmp 22), none⟩, []),
 (⟨some 24, .load1 (.tmp 23), none⟩, []),
 (⟨some 25, .bin .neq (.tmp 20) (.tmp 24), none⟩, [])])
 (.cond (.tmp 25)
 (.seq (.ops [⟨some 4, .move (.const (.bool false)), none⟩])
 (.ret))
 (.skip))))
 (.ops [⟨some 15, .move (.tmp 5), none⟩,
 ⟨some 16, .bin .add (.tmp 15) (.const (.int .i64 1)), none⟩,
 ⟨some 5, .move (.tmp 16), none⟩]))))))
 (.seq (.ops [⟨some 4, .move (.const (.bool true)), none⟩])
 (.ret))))⟩
/-- A context has these functions. -/
structure HasRef01 (c : Ctx) : Prop where
 hurdleref01_Ints : c.IP (c.F 69) = some (c_hurdleref01_Ints c.F c.Ty)

end Go.Proofs.YtdfjicnjcibdaaaI
