/- PRINTED by gen.py (this session's own): the intermediate form of some functions, and a context's having them. -/
import Derived.Test.YtkgfnelapcpibaaIdealZ
namespace Go.Proofs.YtkgfnelapcpibaaI
set_option linter.unusedSimpArgs false
set_option linter.unusedVariables false
open Go

/-- hurdle/hurdleref17.Votes -/
abbrev n_hurdleref17_Votes : Nat := 192
/-- hurdle/hurdleref17.may -/
abbrev n_hurdleref17_may : Nat := 193
/-- hurdle/hurdleref17.Promise -/
abbrev n_hurdleref17_Promise : Nat := 194
/-- hurdle/hurdleref17.Accept -/
abbrev n_hurdleref17_Accept : Nat := 195
/-- hurdle/hurdleref17.Trim -/
abbrev n_hurdleref17_Trim : Nat := 196
/-- hurdle/hurdleref16.Same -/
abbrev n_hurdleref16_Same : Nat := 197
/-- hurdle/hurdleref17.Votes -/
def c_hurdleref17_Votes (F : Nat → FuncId) (Ty : Nat → TypeId) : IFunc := ⟨31, [.tmp 4],
 .seq (.ops [⟨some 2, .box (.tmp 0), none⟩,
 ⟨some 4, .move (.const (.slice none 0 0)), none⟩])
 (.seq (.ops [⟨some 5, .move (.const (.slice none 0 0)), none⟩])
 (.seq (.seq (.ops [⟨some 6, .move (.const (.int .i64 0)), none⟩])
 (.block 0 (.loop (.seq (.seq (.ops [⟨some 7, .move (.tmp 6), none⟩,
 ⟨some 8, .fieldAddr 3 (.tmp 2), none⟩,
 ⟨some 9, .load1 (.tmp 8), none⟩,
 ⟨some 10, .lenSl (.tmp 9), none⟩,
 ⟨some 11, .bin .lss (.tmp 7) (.tmp 10), none⟩])
 (.cond (.tmp 11)
 (.skip)
 (.exit 0)))
 (.seq (.block 1 (.seq (.ops [⟨some 14, .fieldAddr 3 (.tmp 2), none⟩,
 ⟨some 15, .load1 (.tmp 14), none⟩,
 ⟨some 16, .move (.tmp 6), none⟩,
 ⟨some 17, .idxSl 4 (.tmp 15) (.tmp 16), none⟩,
 ⟨some 18, .fieldAddr 0 (.tmp 17), none⟩,
 ⟨some 19, .load1 (.tmp 18), none⟩,
 ⟨some 20, .move (.tmp 1), none⟩,
 ⟨some 21, .bin .geq (.tmp 19) (.tmp 20), none⟩])
 (.cond (.tmp 21)
 (.ops [⟨some 22, .move (.tmp 5), none⟩,
 ⟨some 23, .fieldAddr 3 (.tmp 2), none⟩,
 ⟨some 24, .load1 (.tmp 23), none⟩,
 ⟨some 25, .move (.tmp 6), none⟩,
 ⟨some 26, .idxSl 4 (.tmp 24) (.tmp 25), none⟩,
 ⟨some 27, .loadN 4 (.tmp 26), none⟩,
 ⟨some 28, .buildSlice 1 [.int .i64 0, .int .i64 0, .int .i64 0, .string ⟨#[]⟩] [((0, 4), .tmp 27)], none⟩,
 ⟨some 29, .append 4 40 (.tmp 22) (.tmp 28), none⟩,
 ⟨some 5, .move (.tmp 29), none⟩])
 (.skip))))
 (.ops [⟨some 12, .move (.tmp 6), none⟩,
 ⟨some 13, .bin .add (.tmp 12) (.const (.int .i64 1)), none⟩,
 ⟨some 6, .move (.tmp 13), none⟩]))))))
 (.seq (.ops [⟨some 30, .move (.tmp 5), none⟩,
 ⟨some 4, .move (.tmp 30), none⟩])
 (.ret))))⟩
/-- hurdle/hurdleref17.may -/
def c_hurdleref17_may (F : Nat → FuncId) (Ty : Nat → TypeId) : IFunc := ⟨14, [.tmp 4],
 .seq (.ops [⟨some 2, .box (.tmp 0), none⟩,
 ⟨some 3, .box (.tmp 1), none⟩,
 ⟨some 4, .move (.const (.bool false)), none⟩])
 (.seq (.ops [⟨some 5, .loadN 2 (.tmp 3), none⟩,
 ⟨some 6, .call (F 15) [.tmp 5], none⟩,
 ⟨some 7, .move (.tmp 6), none⟩,
 ⟨some 8, .loadN 2 (.tmp 3), some (7, true)⟩,
 ⟨some 9, .fieldAddr 0 (.tmp 2), some (7, true)⟩,
 ⟨some 10, .loadN 2 (.tmp 9), some (7, true)⟩,
 ⟨some 11, .call (F 14) [.tmp 8, .tmp 10], some (7, true)⟩,
 ⟨some 12, .bin .geq (.tmp 11) (.const (.int .i64 0)), some (7, true)⟩,
 ⟨some 13, .pick (.tmp 7) (.tmp 12) (.const (.bool false)), none⟩,
 ⟨some 4, .move (.tmp 13), none⟩])
 (.ret))⟩
/-- hurdle/hurdleref17.Promise -/
def c_hurdleref17_Promise (F : Nat → FuncId) (Ty : Nat → TypeId) : IFunc := ⟨26, [.cellN 6 4, .tmp 7, .tmp 8],
 .seq (.ops [⟨some 3, .box (.tmp 0), none⟩,
 ⟨some 4, .box (.tmp 1), none⟩,
 ⟨some 6, .alloc [.int .i64 0, .int .i64 0, .int .i64 0, .slice none 0 0], none⟩,
 ⟨some 7, .move (.const (.slice none 0 0)), none⟩,
 ⟨some 8, .move (.const (.bool false)), none⟩])
 (.seq (.seq (.ops [⟨some 9, .loadN 4 (.tmp 3), none⟩,
 ⟨some 10, .loadN 2 (.tmp 4), none⟩,
 ⟨some 11, .call (F 193) [.tmp 9, .tmp 10], none⟩,
 ⟨some 12, .un .not (.tmp 11), none⟩,
 ⟨some 13, .move (.tmp 12), none⟩,
 ⟨some 14, .move (.tmp 2), some (13, false)⟩,
 ⟨some 15, .fieldAddr 2 (.tmp 3), some (13, false)⟩,
 ⟨some 16, .load1 (.tmp 15), some (13, false)⟩,
 ⟨some 17, .bin .lss (.tmp 14) (.tmp 16), some (13, false)⟩,
 ⟨some 18, .pick (.tmp 13) (.const (.bool true)) (.tmp 17), none⟩])
 (.cond (.tmp 18)
 (.seq (.ops [⟨some 19, .loadN 4 (.tmp 3), none⟩,
 ⟨none, .store 4 (.tmp 6) (.tmp 19), none⟩,
 ⟨some 7, .move (.const (.slice none 0 0)), none⟩,
 ⟨some 8, .move (.const (.bool false)), none⟩])
 (.ret))
 (.skip)))
 (.seq (.ops [⟨some 20, .loadN 2 (.tmp 4), none⟩,
 ⟨some 21, .fieldAddr 0 (.tmp 3), none⟩,
 ⟨none, .store 2 (.tmp 21) (.tmp 20), none⟩])
 (.seq (.draw [(⟨some 22, .loadN 4 (.tmp 3), none⟩, []),
 (⟨some 23, .loadN 4 (.tmp 3), none⟩, []),
 (⟨some 24, .move (.tmp 2), none⟩, []),
 (⟨some 25, .call (F 192) [.tmp 23, .tmp 24], none⟩, [⟨some 22, .loadN 4 (.tmp 3), none⟩]),
 (⟨none, .store 4 (.tmp 6) (.tmp 22), none⟩, []),
 (⟨some 7, .move (.tmp 25), none⟩, []),
 (⟨some 8, .move (.const (.bool true)), none⟩, [])])
 (.ret))))⟩
/-- hurdle/hurdleref17.Accept -/
def c_hurdleref17_Accept (F : Nat → FuncId) (Ty : Nat → TypeId) : IFunc := ⟨86, [.cellN 4 4, .tmp 5],
 .seq (.ops [⟨some 2, .box (.tmp 0), none⟩,
 ⟨some 3, .box (.tmp 1), none⟩,
 ⟨some 4, .alloc [.int .i64 0, .int .i64 0, .int .i64 0, .slice none 0 0], none⟩,
 ⟨some 5, .move (.const (.bool false)), none⟩])
 (.seq (.seq (.ops [⟨some 9, .loadN 4 (.tmp 2), none⟩,
 ⟨some 10, .fieldAddr 1 (.tmp 3), none⟩,
 ⟨some 11, .loadN 2 (.tmp 10), none⟩,
 ⟨some 12, .call (F 193) [.tmp 9, .tmp 11], none⟩,
 ⟨some 13, .un .not (.tmp 12), none⟩,
 ⟨some 14, .move (.tmp 13), none⟩,
 ⟨some 15, .fieldAddr 0 (.tmp 3), some (14, false)⟩,
 ⟨some 16, .load1 (.tmp 15), some (14, false)⟩,
 ⟨some 17, .fieldAddr 2 (.tmp 2), some (14, false)⟩,
 ⟨some 18, .load1 (.tmp 17), some (14, false)⟩,
 ⟨some 19, .bin .lss (.tmp 16) (.tmp 18), some (14, false)⟩,
 ⟨some 20, .pick (.tmp 14) (.const (.bool true)) (.tmp 19), none⟩,
 ⟨some 21, .move (.tmp 20), none⟩,
 ⟨some 22, .fieldAddr 0 (.tmp 3), some (21, false)⟩,
 ⟨some 23, .load1 (.tmp 22), some (21, false)⟩,
 ⟨some 24, .bin .geq (.tmp 23) (.const (.int .i64 1024)), some (21, false)⟩,
 ⟨some 25, .pick (.tmp 21) (.const (.bool true)) (.tmp 24), none⟩,
 ⟨some 26, .move (.tmp 25), none⟩,
 ⟨some 27, .fieldAddr 3 (.tmp 3), some (26, false)⟩,
 ⟨some 28, .load1 (.tmp 27), some (26, false)⟩,
 ⟨some 29, .strLen (.tmp 28), some (26, false)⟩,
 ⟨some 30, .bin .gtr (.tmp 29) (.const (.int .i64 4096)), some (26, false)⟩,
 ⟨some 31, .pick (.tmp 26) (.const (.bool true)) (.tmp 30), none⟩])
 (.cond (.tmp 31)
 (.seq (.ops [⟨some 32, .loadN 4 (.tmp 2), none⟩,
 ⟨none, .store 4 (.tmp 4) (.tmp 32), none⟩,
 ⟨some 5, .move (.const (.bool false)), none⟩])
 (.ret))
 (.skip)))
 (.seq (.ops [⟨some 33, .fieldAddr 1 (.tmp 3), none⟩,
 ⟨some 34, .loadN 2 (.tmp 33), none⟩,
 ⟨some 35, .fieldAddr 0 (.tmp 2), none⟩,
 ⟨none, .store 2 (.tmp 35) (.tmp 34), none⟩])
 (.seq (.ops [⟨some 6, .move (.const (.slice none 0 0)), none⟩])
 (.seq (.ops [⟨some 7, .move (.const (.bool false)), none⟩])
 (.seq (.seq (.ops [⟨some 8, .move (.const (.int .i64 0)), none⟩])
 (.block 0 (.loop (.seq (.seq (.ops [⟨some 36, .move (.tmp 8), none⟩,
 ⟨some 37, .fieldAddr 3 (.tmp 2), none⟩,
 ⟨some 38, .load1 (.tmp 37), none⟩,
 ⟨some 39, .lenSl (.tmp 38), none⟩,
 ⟨some 40, .bin .lss (.tmp 36) (.tmp 39), none⟩])
 (.cond (.tmp 40)
 (.skip)
 (.exit 0)))
 (.seq (.block 1 (.seq (.seq (.draw [(⟨some 43, .move (.tmp 7), none⟩, []),
 (⟨some 44, .un .not (.tmp 43), none⟩, []),
 (⟨some 45, .move (.tmp 44), none⟩, []),
 (⟨some 46, .fieldAddr 3 (.tmp 2), some (45, true)⟩, []),
 (⟨some 47, .load1 (.tmp 46), some (45, true)⟩, []),
 (⟨some 48, .move (.tmp 8), some (45, true)⟩, []),
 (⟨some 49, .idxSl 4 (.tmp 47) (.tmp 48), some (45, true)⟩, []),
 (⟨some 50, .fieldAddr 0 (.tmp 49), some (45, true)⟩, []),
 (⟨some 51, .load1 (.tmp 50), some (45, true)⟩, []),
 (⟨some 52, .fieldAddr 0 (.tmp 3), some (45, true)⟩, []),
 (⟨some 53, .load1 (.tmp 52), some (45, true)⟩, []),
 (⟨some 54, .bin .geq (.tmp 51) (.tmp 53), some (45, true)⟩, []),
 (⟨some 55, .pick (.tmp 45) (.tmp 54) (.const (.bool false)), none⟩, [])])
 (.cond (.tmp 55)
 (.seq (.ops [⟨some 56, .move (.tmp 6), none⟩,
 ⟨some 57, .loadN 4 (.tmp 3), none⟩,
 ⟨some 58, .buildSlice 1 [.int .i64 0, .int .i64 0, .int .i64 0, .string ⟨#[]⟩] [((0, 4), .tmp 57)], none⟩,
 ⟨some 59, .append 4 40 (.tmp 56) (.tmp 58), none⟩,
 ⟨some 6, .move (.tmp 59), none⟩])
 (.ops [⟨some 7, .move (.const (.bool true)), none⟩]))
 (.skip)))
 (.seq (.draw [(⟨some 60, .fieldAddr 3 (.tmp 2), none⟩, []),
 (⟨some 61, .load1 (.tmp 60), none⟩, []),
 (⟨some 62, .move (.tmp 8), none⟩, []),
 (⟨some 63, .idxSl 4 (.tmp 61) (.tmp 62), none⟩, []),
 (⟨some 64, .fieldAddr 0 (.tmp 63), none⟩, []),
 (⟨some 65, .load1 (.tmp 64), none⟩, []),
 (⟨some 66, .fieldAddr 0 (.tmp 3), none⟩, []),
 (⟨some 67, .load1 (.tmp 66), none⟩, []),
 (⟨some 68, .bin .neq (.tmp 65) (.tmp 67), none⟩, [])])
 (.cond (.tmp 68)
 (.ops [⟨some 69, .move (.tmp 6), none⟩,
 ⟨some 70, .fieldAddr 3 (.tmp 2), none⟩,
 ⟨some 71, .load1 (.tmp 70), none⟩,
 ⟨some 72, .move (.tmp 8), none⟩,
 ⟨some 73, .idxSl 4 (.tmp 71) (.tmp 72), none⟩,
 ⟨some 74, .loadN 4 (.tmp 73), none⟩,
 ⟨some 75, .buildSlice 1 [.int .i64 0, .int .i64 0, .int .i64 0, .string ⟨#[]⟩] [((0, 4), .tmp 74)], none⟩,
 ⟨some 76, .append 4 40 (.tmp 69) (.tmp 75), none⟩,
 ⟨some 6, .move (.tmp 76), none⟩])
 (.skip)))))
 (.ops [⟨some 41, .move (.tmp 8), none⟩,
 ⟨some 42, .bin .add (.tmp 41) (.const (.int .i64 1)), none⟩,
 ⟨some 8, .move (.tmp 42), none⟩]))))))
 (.seq (.seq (.ops [⟨some 77, .move (.tmp 7), none⟩,
 ⟨some 78, .un .not (.tmp 77), none⟩])
 (.cond (.tmp 78)
 (.ops [⟨some 79, .move (.tmp 6), none⟩,
 ⟨some 80, .loadN 4 (.tmp 3), none⟩,
 ⟨some 81, .buildSlice 1 [.int .i64 0, .int .i64 0, .int .i64 0, .string ⟨#[]⟩] [((0, 4), .tmp 80)], none⟩,
 ⟨some 82, .append 4 40 (.tmp 79) (.tmp 81), none⟩,
 ⟨some 6, .move (.tmp 82), none⟩])
 (.skip)))
 (.seq (.ops [⟨some 83, .move (.tmp 6), none⟩,
 ⟨some 84, .fieldAddr 3 (.tmp 2), none⟩,
 ⟨none, .store 1 (.tmp 84) (.tmp 83), none⟩])
 (.seq (.ops [⟨some 85, .loadN 4 (.tmp 2), none⟩,
 ⟨none, .store 4 (.tmp 4) (.tmp 85), none⟩,
 ⟨some 5, .move (.const (.bool true)), none⟩])
 (.ret)))))))))⟩
/-- hurdle/hurdleref17.Trim -/
def c_hurdleref17_Trim (F : Nat → FuncId) (Ty : Nat → TypeId) : IFunc := ⟨28, [.cellN 4 4, .tmp 5],
 .seq (.ops [⟨some 2, .box (.tmp 0), none⟩,
 ⟨some 4, .alloc [.int .i64 0, .int .i64 0, .int .i64 0, .slice none 0 0], none⟩,
 ⟨some 5, .move (.const (.int .i64 0)), none⟩])
 (.seq (.ops [⟨some 8, .move (.tmp 1), none⟩,
 ⟨some 9, .mxn false (.tmp 8) (.const (.int .i64 1024)), none⟩,
 ⟨some 1, .move (.tmp 9), none⟩])
 (.seq (.ops [⟨some 10, .loadN 4 (.tmp 2), none⟩,
 ⟨some 11, .move (.tmp 1), none⟩,
 ⟨some 12, .call (F 192) [.tmp 10, .tmp 11], none⟩,
 ⟨some 6, .move (.tmp 12), none⟩])
 (.seq (.ops [⟨some 13, .fieldAddr 3 (.tmp 2), none⟩,
 ⟨some 14, .load1 (.tmp 13), none⟩,
 ⟨some 15, .lenSl (.tmp 14), none⟩,
 ⟨some 16, .move (.tmp 6), none⟩,
 ⟨some 17, .lenSl (.tmp 16), none⟩,
 ⟨some 18, .bin .sub (.tmp 15) (.tmp 17), none⟩,
 ⟨some 7, .move (.tmp 18), none⟩])
 (.seq (.ops [⟨some 19, .move (.tmp 6), none⟩,
 ⟨some 20, .fieldAddr 3 (.tmp 2), none⟩,
 ⟨none, .store 1 (.tmp 20) (.tmp 19), none⟩])
 (.seq (.ops [⟨some 21, .fieldAddr 2 (.tmp 2), none⟩,
 ⟨some 22, .load1 (.tmp 21), none⟩,
 ⟨some 23, .move (.tmp 1), none⟩,
 ⟨some 24, .mxn true (.tmp 22) (.tmp 23), none⟩,
 ⟨some 25, .fieldAddr 2 (.tmp 2), none⟩,
 ⟨none, .store 1 (.tmp 25) (.tmp 24), none⟩])
 (.seq (.ops [⟨some 26, .loadN 4 (.tmp 2), none⟩,
 ⟨some 27, .move (.tmp 7), none⟩,
 ⟨none, .store 4 (.tmp 4) (.tmp 26), none⟩,
 ⟨some 5, .move (.tmp 27), none⟩])
 (.ret)))))))⟩
/-- hurdle/hurdleref16.Same -/
def c_hurdleref16_Same (F : Nat → FuncId) (Ty : Nat → TypeId) : IFunc := ⟨26, [.tmp 4],
 .seq (.ops [⟨some 4, .move (.const (.bool false)), none⟩])
 (.seq (.seq (.ops [⟨some 6, .move (.tmp 0), none⟩,
 ⟨some 7, .lenSl (.tmp 6), none⟩,
 ⟨some 8, .move (.tmp 1), none⟩,
 ⟨some 9, .lenSl (.tmp 8), none⟩,
 ⟨some 10, .bin .neq (.tmp 7) (.tmp 9), none⟩])
 (.cond (.tmp 10)
 (.seq (.ops [⟨some 4, .move (.const (.bool false)), none⟩])
 (.ret))
 (.skip)))
 (.seq (.seq (.ops [⟨some 5, .move (.const (.int .i64 0)), none⟩])
 (.block 0 (.loop (.seq (.seq (.ops [⟨some 11, .move (.tmp 5), none⟩,
 ⟨some 12, .move (.tmp 0), none⟩,
 ⟨some 13, .lenSl (.tmp 12), none⟩,
 ⟨some 14, .bin .lss (.tmp 11) (.tmp 13), none⟩])
 (.cond (.tmp 14)
 (.skip)
 (.exit 0)))
 (.seq (.block 1 (.seq (.draw [(⟨some 17, .move (.tmp 0), none⟩, []),
 (⟨some 18, .move (.tmp 5), none⟩, []),
 (⟨some 19, .idxSl 4 (.tmp 17) (.tmp 18), none⟩, []),
 (⟨some 20, .loadN 4 (.tmp 19), none⟩, []),
 (⟨some 21, .move (.tmp 1), none⟩, []),
 (⟨some 22, .move (.tmp 5), none⟩, []),
 (⟨some 23, .idxSl 4 (.tmp 21) (.tmp 22), none⟩, []),
 (⟨some 24, .loadN 4 (.tmp 23), none⟩, []),
 (⟨some 25, .eqv true [.i .i64, .i .i64, .i .i64, .s] (.tmp 20) (.tmp 24), none⟩, [])])
 (.cond (.tmp 25)
 (.seq (.ops [⟨some 4, .move (.const (.bool false)), none⟩])
 (.ret))
 (.skip))))
 (.ops [⟨some 15, .move (.tmp 5), none⟩,
 ⟨some 16, .bin .add (.tmp 15) (.const (.int .i64 1)), none⟩,
 ⟨some 5, .move (.tmp 16), none⟩]))))))
 (.seq (.ops [⟨some 4, .move (.const (.bool true)), none⟩])
 (.ret))))⟩
/-- A context has these functions. -/
structure HasRef17 (c : Ctx) : Prop where
 hurdleref17_Votes : c.IP (c.F 192) = some (c_hurdleref17_Votes c.F c.Ty)
 hurdleref17_may : c.IP (c.F 193) = some (c_hurdleref17_may c.F c.Ty)
 hurdleref17_Promise : c.IP (c.F 194) = some (c_hurdleref17_Promise c.F c.Ty)
 hurdleref17_Accept : c.IP (c.F 195) = some (c_hurdleref17_Accept c.F c.Ty)
 hurdleref17_Trim : c.IP (c.F 196) = some (c_hurdleref17_Trim c.F c.Ty)
 hurdleref16_Same : c.IP (c.F 197) = some (c_hurdleref16_Same c.F c.Ty)

end Go.Proofs.YtkgfnelapcpibaaI
