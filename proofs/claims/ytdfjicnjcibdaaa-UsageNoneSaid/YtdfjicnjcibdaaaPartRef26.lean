/- PRINTED by gen.py (this session's own): the intermediate form of some functions, and a context's having them. -/
import Derived.Test.YtdfjicnjcibdaaaIdealZ
namespace Go.Proofs.YtdfjicnjcibdaaaI
set_option linter.unusedSimpArgs false
set_option linter.unusedVariables false
open Go

/-- hurdle/hurdleref26.may -/
abbrev n_hurdleref26_may : Nat := 259
/-- hurdle/hurdleref26.find -/
abbrev n_hurdleref26_find : Nat := 260
/-- hurdle/hurdleref26.Add -/
abbrev n_hurdleref26_Add : Nat := 261
/-- hurdle/hurdleref26.Dead -/
abbrev n_hurdleref26_Dead : Nat := 262
/-- hurdle/hurdleref26.Drop -/
abbrev n_hurdleref26_Drop : Nat := 263
/-- hurdle/hurdleref26.Score -/
abbrev n_hurdleref26_Score : Nat := 264
/-- hurdle/hurdleref26.Pick -/
abbrev n_hurdleref26_Pick : Nat := 265
/-- hurdle/hurdleref26.Empty -/
abbrev n_hurdleref26_Empty : Nat := 266
/-- hurdle/hurdleref26.Live -/
abbrev n_hurdleref26_Live : Nat := 267
/-- hurdle/hurdleref26.Same -/
abbrev n_hurdleref26_Same : Nat := 268
/-- hurdle/hurdleref26.may -/
def c_hurdleref26_may (F : Nat → FuncId) (Ty : Nat → TypeId) : IFunc := ⟨33, [.tmp 2],
 .seq (.ops [⟨some 1, .box (.tmp 0), none⟩,
 ⟨some 2, .move (.const (.bool false)), none⟩])
 (.seq (.ops [⟨some 3, .fieldAddr 1 (.tmp 1), none⟩,
 ⟨some 4, .load1 (.tmp 3), none⟩,
 ⟨some 5, .bin .geq (.tmp 4) (.const (.int .i64 1)), none⟩,
 ⟨some 6, .move (.tmp 5), none⟩,
 ⟨some 7, .fieldAddr 1 (.tmp 1), some (6, true)⟩,
 ⟨some 8, .load1 (.tmp 7), some (6, true)⟩,
 ⟨some 9, .bin .leq (.tmp 8) (.const (.int .i64 65536)), some (6, true)⟩,
 ⟨some 10, .pick (.tmp 6) (.tmp 9) (.const (.bool false)), none⟩,
 ⟨some 11, .move (.tmp 10), none⟩,
 ⟨some 12, .fieldAddr 2 (.tmp 1), some (11, true)⟩,
 ⟨some 13, .load1 (.tmp 12), some (11, true)⟩,
 ⟨some 14, .bin .geq (.tmp 13) (.const (.int .i64 0)), some (11, true)⟩,
 ⟨some 15, .pick (.tmp 11) (.tmp 14) (.const (.bool false)), none⟩,
 ⟨some 16, .move (.tmp 15), none⟩,
 ⟨some 17, .fieldAddr 2 (.tmp 1), some (16, true)⟩,
 ⟨some 18, .load1 (.tmp 17), some (16, true)⟩,
 ⟨some 19, .fieldAddr 1 (.tmp 1), some (16, true)⟩,
 ⟨some 20, .load1 (.tmp 19), some (16, true)⟩,
 ⟨some 21, .bin .leq (.tmp 18) (.tmp 20), some (16, true)⟩,
 ⟨some 22, .pick (.tmp 16) (.tmp 21) (.const (.bool false)), none⟩,
 ⟨some 23, .move (.tmp 22), none⟩,
 ⟨some 24, .fieldAddr 3 (.tmp 1), some (23, true)⟩,
 ⟨some 25, .load1 (.tmp 24), some (23, true)⟩,
 ⟨some 26, .bin .geq (.tmp 25) (.const (.int .i64 0)), some (23, true)⟩,
 ⟨some 27, .pick (.tmp 23) (.tmp 26) (.const (.bool false)), none⟩,
 ⟨some 28, .move (.tmp 27), none⟩,
 ⟨some 29, .fieldAddr 3 (.tmp 1), some (28, true)⟩,
 ⟨some 30, .load1 (.tmp 29), some (28, true)⟩,
 ⟨some 31, .bin .leq (.tmp 30) (.const (.int .i64 1099511627776)), some (28, true)⟩,
 ⟨some 32, .pick (.tmp 28) (.tmp 31) (.const (.bool false)), none⟩,
 ⟨some 2, .move (.tmp 32), none⟩])
 (.ret))⟩
/-- hurdle/hurdleref26.find -/
def c_hurdleref26_find (F : Nat → FuncId) (Ty : Nat → TypeId) : IFunc := ⟨36, [.tmp 4, .tmp 5],
 .seq (.ops [⟨some 4, .move (.const (.int .i64 0)), none⟩,
 ⟨some 5, .move (.const (.bool false)), none⟩])
 (.seq (.ops [⟨some 6, .move (.const (.int .i64 0)), none⟩])
 (.seq (.block 0 (.loop (.seq (.seq (.ops [⟨some 7, .move (.tmp 6), none⟩,
 ⟨some 8, .move (.tmp 0), none⟩,
 ⟨some 9, .lenSl (.tmp 8), none⟩,
 ⟨some 10, .bin .lss (.tmp 7) (.tmp 9), none⟩,
 ⟨some 11, .move (.tmp 10), none⟩,
 ⟨some 12, .move (.tmp 0), some (11, true)⟩,
 ⟨some 13, .move (.tmp 6), some (11, true)⟩,
 ⟨some 14, .idxSl 4 (.tmp 12) (.tmp 13), some (11, true)⟩,
 ⟨some 15, .fieldAddr 0 (.tmp 14), some (11, true)⟩,
 ⟨some 16, .load1 (.tmp 15), some (11, true)⟩,
 ⟨some 17, .move (.tmp 1), some (11, true)⟩,
 ⟨some 18, .bin .lss (.tmp 16) (.tmp 17), some (11, true)⟩,
 ⟨some 19, .pick (.tmp 11) (.tmp 18) (.const (.bool false)), none⟩])
 (.cond (.tmp 19)
 (.skip)
 (.exit 0)))
 (.block 1 (.ops [⟨some 20, .move (.tmp 6), none⟩,
 ⟨some 21, .bin .add (.tmp 20) (.const (.int .i64 1)), none⟩,
 ⟨some 6, .move (.tmp 21), none⟩])))))
 (.seq (.draw [(⟨some 22, .move (.tmp 6), none⟩, []),
 (⟨some 23, .move (.tmp 6), none⟩, []),
 (⟨some 24, .move (.tmp 0), none⟩, []),
 (⟨some 25, .lenSl (.tmp 24), none⟩, []),
 (⟨some 26, .bin .lss (.tmp 23) (.tmp 25), none⟩, []),
 (⟨some 27, .move (.tmp 26), none⟩, []),
 (⟨some 28, .move (.tmp 0), some (27, true)⟩, []),
 (⟨some 29, .move (.tmp 6), some (27, true)⟩, []),
 (⟨some 30, .idxSl 4 (.tmp 28) (.tmp 29), some (27, true)⟩, []),
 (⟨some 31, .fieldAddr 0 (.tmp 30), some (27, true)⟩, []),
 (⟨some 32, .load1 (.tmp 31), some (27, true)⟩, []),
 (⟨some 33, .move (.tmp 1), some (27, true)⟩, []),
 (⟨some 34, .bin .eql (.tmp 32) (.tmp 33), some (27, true)⟩, []),
 (⟨some 35, .pick (.tmp 27) (.tmp 34) (.const (.bool false)), none⟩, []),
 (⟨some 4, .move (.tmp 22), none⟩, []),
 (⟨some 5, .move (.tmp 35), none⟩, [])])
 (.ret))))⟩
/-- hurdle/hurdleref26.Add -/
def c_hurdleref26_Add (F : Nat → FuncId) (Ty : Nat → TypeId) : IFunc := ⟨51, [.tmp 10, .tmp 11],
 .seq (.ops [⟨some 10, .move (.const (.slice none 0 0)), none⟩,
 ⟨some 11, .move (.const (.int .i64 0)), none⟩])
 (.seq (.ops [⟨some 15, .move (.tmp 1), none⟩,
 ⟨some 16, .move (.tmp 2), none⟩,
 ⟨some 17, .move (.tmp 3), none⟩,
 ⟨some 18, .move (.tmp 4), none⟩,
 ⟨some 19, .build [.int .i64 0, .int .i64 0, .int .i64 0, .int .i64 0] [((0, 1), .tmp 15), ((1, 1), .tmp 16), ((2, 1), .tmp 17), ((3, 1), .tmp 18)], none⟩,
 ⟨some 12, .alloc [.int .i64 0, .int .i64 0, .int .i64 0, .int .i64 0], none⟩,
 ⟨none, .store 4 (.tmp 12) (.tmp 19), none⟩])
 (.seq (.seq (.ops [⟨some 20, .move (.tmp 1), none⟩,
 ⟨some 21, .bin .lss (.tmp 20) (.const (.int .i64 0)), none⟩,
 ⟨some 22, .move (.tmp 21), none⟩,
 ⟨some 23, .move (.tmp 1), some (22, false)⟩,
 ⟨some 24, .bin .geq (.tmp 23) (.const (.int .i64 4096)), some (22, false)⟩,
 ⟨some 25, .pick (.tmp 22) (.const (.bool true)) (.tmp 24), none⟩,
 ⟨some 26, .move (.tmp 25), none⟩,
 ⟨some 27, .loadN 4 (.tmp 12), some (26, false)⟩,
 ⟨some 28, .call (F 259) [.tmp 27], some (26, false)⟩,
 ⟨some 29, .un .not (.tmp 28), some (26, false)⟩,
 ⟨some 30, .pick (.tmp 26) (.const (.bool true)) (.tmp 29), none⟩])
 (.cond (.tmp 30)
 (.seq (.ops [⟨some 31, .move (.tmp 0), none⟩,
 ⟨some 10, .move (.tmp 31), none⟩,
 ⟨some 11, .move (.const (.int .i64 1)), none⟩])
 (.ret))
 (.skip)))
 (.seq (.ops [⟨some 33, .move (.tmp 0), none⟩,
 ⟨some 34, .move (.tmp 1), none⟩,
 ⟨some 35, .call (F 260) [.tmp 33, .tmp 34], none⟩,
 ⟨some 32, .move (.tmp 35), none⟩,
 ⟨some 36, .extract (.tmp 32) 0, none⟩,
 ⟨some 37, .extract (.tmp 32) 1, none⟩,
 ⟨some 13, .move (.tmp 36), none⟩,
 ⟨some 14, .move (.tmp 37), none⟩])
 (.seq (.seq (.ops [⟨some 38, .move (.tmp 14), none⟩])
 (.cond (.tmp 38)
 (.seq (.ops [⟨some 39, .move (.tmp 0), none⟩,
 ⟨some 10, .move (.tmp 39), none⟩,
 ⟨some 11, .move (.const (.int .i64 6)), none⟩])
 (.ret))
 (.skip)))
 (.seq (.draw [(⟨some 40, .move (.tmp 0), none⟩, []),
 (⟨some 41, .move (.tmp 13), none⟩, []),
 (⟨some 42, .sliceSl 4 (.tmp 40) none (some (.tmp 41)) none, none⟩, []),
 (⟨some 44, .loadN 4 (.tmp 12), none⟩, []),
 (⟨some 45, .buildSlice 1 [.int .i64 0, .int .i64 0, .int .i64 0, .int .i64 0] [((0, 4), .tmp 44)], none⟩, []),
 (⟨some 47, .move (.tmp 0), none⟩, []),
 (⟨some 48, .move (.tmp 13), none⟩, []),
 (⟨some 49, .sliceSl 4 (.tmp 47) (some (.tmp 48)) none none, none⟩, []),
 (⟨some 43, .append 4 32 (.const (.slice none 0 0)) (.tmp 42), none⟩, [⟨some 44, .loadN 4 (.tmp 12), none⟩, ⟨some 49, .sliceSl 4 (.tmp 47) (some (.tmp 48)) none none, none⟩]),
 (⟨some 46, .append 4 32 (.tmp 43) (.tmp 45), none⟩, [⟨some 49, .sliceSl 4 (.tmp 47) (some (.tmp 48)) none none, none⟩]),
 (⟨some 50, .append 4 32 (.tmp 46) (.tmp 49), none⟩, []),
 (⟨some 10, .move (.tmp 50), none⟩, []),
 (⟨some 11, .move (.const (.int .i64 0)), none⟩, [])])
 (.ret))))))⟩
/-- hurdle/hurdleref26.Dead -/
def c_hurdleref26_Dead (F : Nat → FuncId) (Ty : Nat → TypeId) : IFunc := ⟨49, [.tmp 6, .tmp 7],
 .seq (.ops [⟨some 6, .move (.const (.slice none 0 0)), none⟩,
 ⟨some 7, .move (.const (.int .i64 0)), none⟩])
 (.seq (.ops [⟨some 12, .move (.tmp 0), none⟩,
 ⟨some 13, .move (.tmp 1), none⟩,
 ⟨some 14, .call (F 260) [.tmp 12, .tmp 13], none⟩,
 ⟨some 11, .move (.tmp 14), none⟩,
 ⟨some 15, .extract (.tmp 11) 0, none⟩,
 ⟨some 16, .extract (.tmp 11) 1, none⟩,
 ⟨some 8, .move (.tmp 15), none⟩,
 ⟨some 9, .move (.tmp 16), none⟩])
 (.seq (.block 0 (.seq (.ops [⟨some 18, .move (.tmp 2), none⟩,
 ⟨some 19, .bin .lss (.tmp 18) (.const (.int .i64 0)), none⟩,
 ⟨some 17, .move (.tmp 19), none⟩])
 (.cond (.tmp 17)
 (.seq (.ops [⟨some 20, .move (.tmp 0), none⟩,
 ⟨some 6, .move (.tmp 20), none⟩,
 ⟨some 7, .move (.const (.int .i64 1)), none⟩])
 (.ret))
 (.seq (.ops [⟨some 22, .move (.tmp 9), none⟩,
 ⟨some 23, .move (.tmp 22), none⟩,
 ⟨some 24, .move (.tmp 2), some (23, true)⟩,
 ⟨some 25, .move (.tmp 0), some (23, true)⟩,
 ⟨some 26, .move (.tmp 8), some (23, true)⟩,
 ⟨some 27, .idxSl 4 (.tmp 25) (.tmp 26), some (23, true)⟩,
 ⟨some 28, .fieldAddr 2 (.tmp 27), some (23, true)⟩,
 ⟨some 29, .load1 (.tmp 28), some (23, true)⟩,
 ⟨some 30, .bin .gtr (.tmp 24) (.tmp 29), some (23, true)⟩,
 ⟨some 31, .pick (.tmp 23) (.tmp 30) (.const (.bool false)), none⟩,
 ⟨some 21, .move (.tmp 31), none⟩])
 (.cond (.tmp 21)
 (.seq (.ops [⟨some 32, .move (.tmp 0), none⟩,
 ⟨some 6, .move (.tmp 32), none⟩,
 ⟨some 7, .move (.const (.int .i64 2)), none⟩])
 (.ret))
 (.seq (.ops [⟨some 34, .move (.tmp 9), none⟩,
 ⟨some 35, .un .not (.tmp 34), none⟩,
 ⟨some 33, .move (.tmp 35), none⟩])
 (.cond (.tmp 33)
 (.seq (.ops [⟨some 36, .move (.tmp 0), none⟩,
 ⟨some 6, .move (.tmp 36), none⟩,
 ⟨some 7, .move (.const (.int .i64 7)), none⟩])
 (.ret))
 (.skip))))))))
 (.seq (.ops [⟨some 37, .move (.tmp 0), none⟩,
 ⟨some 38, .append 4 32 (.const (.slice none 0 0)) (.tmp 37), none⟩,
 ⟨some 10, .move (.tmp 38), none⟩])
 (.seq (.ops [⟨some 39, .move (.tmp 10), none⟩,
 ⟨some 40, .move (.tmp 8), none⟩,
 ⟨some 41, .idxSl 4 (.tmp 39) (.tmp 40), none⟩,
 ⟨some 42, .fieldAddr 2 (.tmp 41), none⟩,
 ⟨some 43, .load1 (.tmp 42), none⟩,
 ⟨some 44, .move (.tmp 2), none⟩,
 ⟨some 45, .bin .sub (.tmp 43) (.tmp 44), none⟩,
 ⟨some 46, .idxSl 4 (.tmp 39) (.tmp 40), none⟩,
 ⟨some 47, .fieldAddr 2 (.tmp 46), none⟩,
 ⟨none, .store 1 (.tmp 47) (.tmp 45), none⟩])
 (.seq (.ops [⟨some 48, .move (.tmp 10), none⟩,
 ⟨some 6, .move (.tmp 48), none⟩,
 ⟨some 7, .move (.const (.int .i64 0)), none⟩])
 (.ret))))))⟩
/-- hurdle/hurdleref26.Drop -/
def c_hurdleref26_Drop (F : Nat → FuncId) (Ty : Nat → TypeId) : IFunc := ⟨26, [.tmp 4, .tmp 5],
 .seq (.ops [⟨some 4, .move (.const (.slice none 0 0)), none⟩,
 ⟨some 5, .move (.const (.bool false)), none⟩])
 (.seq (.ops [⟨some 9, .move (.tmp 0), none⟩,
 ⟨some 10, .move (.tmp 1), none⟩,
 ⟨some 11, .call (F 260) [.tmp 9, .tmp 10], none⟩,
 ⟨some 8, .move (.tmp 11), none⟩,
 ⟨some 12, .extract (.tmp 8) 0, none⟩,
 ⟨some 13, .extract (.tmp 8) 1, none⟩,
 ⟨some 6, .move (.tmp 12), none⟩,
 ⟨some 7, .move (.tmp 13), none⟩])
 (.seq (.seq (.ops [⟨some 14, .move (.tmp 7), none⟩,
 ⟨some 15, .un .not (.tmp 14), none⟩])
 (.cond (.tmp 15)
 (.seq (.ops [⟨some 16, .move (.tmp 0), none⟩,
 ⟨some 4, .move (.tmp 16), none⟩,
 ⟨some 5, .move (.const (.bool false)), none⟩])
 (.ret))
 (.skip)))
 (.seq (.draw [(⟨some 17, .move (.tmp 0), none⟩, []),
 (⟨some 18, .move (.tmp 6), none⟩, []),
 (⟨some 19, .sliceSl 4 (.tmp 17) none (some (.tmp 18)) none, none⟩, []),
 (⟨some 21, .move (.tmp 0), none⟩, []),
 (⟨some 22, .move (.tmp 6), none⟩, []),
 (⟨some 23, .bin .add (.tmp 22) (.const (.int .i64 1)), none⟩, []),
 (⟨some 24, .sliceSl 4 (.tmp 21) (some (.tmp 23)) none none, none⟩, []),
 (⟨some 20, .append 4 32 (.const (.slice none 0 0)) (.tmp 19), none⟩, [⟨some 24, .sliceSl 4 (.tmp 21) (some (.tmp 23)) none none, none⟩]),
 (⟨some 25, .append 4 32 (.tmp 20) (.tmp 24), none⟩, []),
 (⟨some 4, .move (.tmp 25), none⟩, []),
 (⟨some 5, .move (.const (.bool true)), none⟩, [])])
 (.ret))))⟩
/-- hurdle/hurdleref26.Score -/
def c_hurdleref26_Score (F : Nat → FuncId) (Ty : Nat → TypeId) : IFunc := ⟨33, [.tmp 4],
 .seq (.ops [⟨some 2, .box (.tmp 0), none⟩,
 ⟨some 4, .move (.const (.int .i64 0)), none⟩])
 (.seq (.seq (.ops [⟨some 6, .loadN 4 (.tmp 2), none⟩,
 ⟨some 7, .call (F 259) [.tmp 6], none⟩,
 ⟨some 8, .un .not (.tmp 7), none⟩])
 (.cond (.tmp 8)
 (.seq (.ops [⟨some 4, .move (.const (.int .i64 0)), none⟩])
 (.ret))
 (.skip)))
 (.seq (.ops [⟨some 5, .move (.const (.int .i64 0)), none⟩])
 (.seq (.seq (.ops [⟨some 9, .move (.tmp 1), none⟩,
 ⟨some 10, .fieldAddr 3 (.tmp 2), none⟩,
 ⟨some 11, .load1 (.tmp 10), none⟩,
 ⟨some 12, .bin .gtr (.tmp 9) (.tmp 11), none⟩])
 (.cond (.tmp 12)
 (.ops [⟨some 13, .move (.tmp 1), none⟩,
 ⟨some 14, .fieldAddr 3 (.tmp 2), none⟩,
 ⟨some 15, .load1 (.tmp 14), none⟩,
 ⟨some 16, .bin .sub (.tmp 13) (.tmp 15), none⟩,
 ⟨some 17, .mxn false (.tmp 16) (.const (.int .i64 1000000)), none⟩,
 ⟨some 5, .move (.tmp 17), none⟩])
 (.skip)))
 (.seq (.ops [⟨some 18, .fieldAddr 1 (.tmp 2), none⟩,
 ⟨some 19, .load1 (.tmp 18), none⟩,
 ⟨some 20, .fieldAddr 2 (.tmp 2), none⟩,
 ⟨some 21, .load1 (.tmp 20), none⟩,
 ⟨some 22, .bin .sub (.tmp 19) (.tmp 21), none⟩,
 ⟨some 23, .move (.tmp 5), none⟩,
 ⟨some 24, .bin .add (.tmp 23) (.const (.int .i64 1)), none⟩,
 ⟨some 25, .bin .mul (.tmp 22) (.tmp 24), none⟩,
 ⟨some 26, .bin .mul (.tmp 25) (.const (.int .i64 1000)), none⟩,
 ⟨some 27, .fieldAddr 1 (.tmp 2), none⟩,
 ⟨some 28, .load1 (.tmp 27), none⟩,
 ⟨some 29, .fieldAddr 2 (.tmp 2), none⟩,
 ⟨some 30, .load1 (.tmp 29), none⟩,
 ⟨some 31, .bin .add (.tmp 28) (.tmp 30), none⟩,
 ⟨some 32, .bin .quo (.tmp 26) (.tmp 31), none⟩,
 ⟨some 4, .move (.tmp 32), none⟩])
 (.ret)))))⟩
/-- hurdle/hurdleref26.Pick -/
def c_hurdleref26_Pick (F : Nat → FuncId) (Ty : Nat → TypeId) : IFunc := ⟨52, [.tmp 4, .tmp 5],
 .seq (.ops [⟨some 4, .move (.const (.int .i64 0)), none⟩,
 ⟨some 5, .move (.const (.bool false)), none⟩])
 (.seq (.ops [⟨some 6, .move (.const (.int .i64 (-1))), none⟩])
 (.seq (.seq (.ops [⟨some 7, .move (.const (.int .i64 0)), none⟩])
 (.block 0 (.loop (.seq (.seq (.ops [⟨some 8, .move (.tmp 7), none⟩,
 ⟨some 9, .move (.tmp 0), none⟩,
 ⟨some 10, .lenSl (.tmp 9), none⟩,
 ⟨some 11, .bin .lss (.tmp 8) (.tmp 10), none⟩])
 (.cond (.tmp 11)
 (.skip)
 (.exit 0)))
 (.seq (.block 1 (.seq (.draw [(⟨some 14, .move (.tmp 0), none⟩, []),
 (⟨some 15, .move (.tmp 7), none⟩, []),
 (⟨some 16, .idxSl 4 (.tmp 14) (.tmp 15), none⟩, []),
 (⟨some 17, .fieldAddr 2 (.tmp 16), none⟩, []),
 (⟨some 18, .load1 (.tmp 17), none⟩, []),
 (⟨some 19, .move (.tmp 0), none⟩, []),
 (⟨some 20, .move (.tmp 7), none⟩, []),
 (⟨some 21, .idxSl 4 (.tmp 19) (.tmp 20), none⟩, []),
 (⟨some 22, .fieldAddr 1 (.tmp 21), none⟩, []),
 (⟨some 23, .load1 (.tmp 22), none⟩, []),
 (⟨some 24, .bin .lss (.tmp 18) (.tmp 23), none⟩, []),
 (⟨some 25, .move (.tmp 24), none⟩, []),
 (⟨some 26, .move (.tmp 6), some (25, true)⟩, []),
 (⟨some 27, .bin .lss (.tmp 26) (.const (.int .i64 0)), some (25, true)⟩, []),
 (⟨some 28, .move (.tmp 27), some (25, true)⟩, []),
 (⟨some 29, .move (.tmp 0), some (28, false)⟩, []),
 (⟨some 30, .move (.tmp 7), some (28, false)⟩, []),
 (⟨some 31, .idxSl 4 (.tmp 29) (.tmp 30), some (28, false)⟩, []),
 (⟨some 32, .loadN 4 (.tmp 31), some (28, false)⟩, []),
 (⟨some 33, .move (.tmp 1), some (28, false)⟩, []),
 (⟨some 35, .move (.tmp 0), some (28, false)⟩, []),
 (⟨some 36, .move (.tmp 6), some (28, false)⟩, []),
 (⟨some 37, .idxSl 4 (.tmp 35) (.tmp 36), some (28, false)⟩, []),
 (⟨some 38, .loadN 4 (.tmp 37), some (28, false)⟩, []),
 (⟨some 39, .move (.tmp 1), some (28, false)⟩, []),
 (⟨some 34, .call (F 264) [.tmp 32, .tmp 33], some (28, false)⟩, [⟨some 38, .loadN 4 (.tmp 37), some (28, false)⟩]),
 (⟨some 40, .call (F 264) [.tmp 38, .tmp 39], some (28, false)⟩, []),
 (⟨some 41, .bin .gtr (.tmp 34) (.tmp 40), some (28, false)⟩, []),
 (⟨some 42, .pick (.tmp 28) (.const (.bool true)) (.tmp 41), some (25, true)⟩, []),
 (⟨some 43, .pick (.tmp 25) (.tmp 42) (.const (.bool false)), none⟩, [])])
 (.cond (.tmp 43)
 (.ops [⟨some 44, .move (.tmp 7), none⟩,
 ⟨some 6, .move (.tmp 44), none⟩])
 (.skip))))
 (.ops [⟨some 12, .move (.tmp 7), none⟩,
 ⟨some 13, .bin .add (.tmp 12) (.const (.int .i64 1)), none⟩,
 ⟨some 7, .move (.tmp 13), none⟩]))))))
 (.seq (.seq (.ops [⟨some 45, .move (.tmp 6), none⟩,
 ⟨some 46, .bin .lss (.tmp 45) (.const (.int .i64 0)), none⟩])
 (.cond (.tmp 46)
 (.seq (.ops [⟨some 4, .move (.const (.int .i64 0)), none⟩,
 ⟨some 5, .move (.const (.bool false)), none⟩])
 (.ret))
 (.skip)))
 (.seq (.ops [⟨some 47, .move (.tmp 0), none⟩,
 ⟨some 48, .move (.tmp 6), none⟩,
 ⟨some 49, .idxSl 4 (.tmp 47) (.tmp 48), none⟩,
 ⟨some 50, .fieldAddr 0 (.tmp 49), none⟩,
 ⟨some 51, .load1 (.tmp 50), none⟩,
 ⟨some 4, .move (.tmp 51), none⟩,
 ⟨some 5, .move (.const (.bool true)), none⟩])
 (.ret)))))⟩
/-- hurdle/hurdleref26.Empty -/
def c_hurdleref26_Empty (F : Nat → FuncId) (Ty : Nat → TypeId) : IFunc := ⟨26, [.tmp 2],
 .seq (.ops [⟨some 2, .move (.const (.slice none 0 0)), none⟩])
 (.seq (.ops [⟨some 3, .move (.const (.slice none 0 0)), none⟩])
 (.seq (.seq (.ops [⟨some 4, .move (.const (.int .i64 0)), none⟩])
 (.block 0 (.loop (.seq (.seq (.ops [⟨some 5, .move (.tmp 4), none⟩,
 ⟨some 6, .move (.tmp 0), none⟩,
 ⟨some 7, .lenSl (.tmp 6), none⟩,
 ⟨some 8, .bin .lss (.tmp 5) (.tmp 7), none⟩])
 (.cond (.tmp 8)
 (.skip)
 (.exit 0)))
 (.seq (.block 1 (.seq (.ops [⟨some 11, .move (.tmp 0), none⟩,
 ⟨some 12, .move (.tmp 4), none⟩,
 ⟨some 13, .idxSl 4 (.tmp 11) (.tmp 12), none⟩,
 ⟨some 14, .fieldAddr 2 (.tmp 13), none⟩,
 ⟨some 15, .load1 (.tmp 14), none⟩,
 ⟨some 16, .bin .eql (.tmp 15) (.const (.int .i64 0)), none⟩])
 (.cond (.tmp 16)
 (.ops [⟨some 17, .move (.tmp 3), none⟩,
 ⟨some 18, .move (.tmp 0), none⟩,
 ⟨some 19, .move (.tmp 4), none⟩,
 ⟨some 20, .idxSl 4 (.tmp 18) (.tmp 19), none⟩,
 ⟨some 21, .fieldAddr 0 (.tmp 20), none⟩,
 ⟨some 22, .load1 (.tmp 21), none⟩,
 ⟨some 23, .buildSlice 1 [.int .i64 0] [((0, 1), .tmp 22)], none⟩,
 ⟨some 24, .append 1 8 (.tmp 17) (.tmp 23), none⟩,
 ⟨some 3, .move (.tmp 24), none⟩])
 (.skip))))
 (.ops [⟨some 9, .move (.tmp 4), none⟩,
 ⟨some 10, .bin .add (.tmp 9) (.const (.int .i64 1)), none⟩,
 ⟨some 4, .move (.tmp 10), none⟩]))))))
 (.seq (.ops [⟨some 25, .move (.tmp 3), none⟩,
 ⟨some 2, .move (.tmp 25), none⟩])
 (.ret))))⟩
/-- hurdle/hurdleref26.Live -/
def c_hurdleref26_Live (F : Nat → FuncId) (Ty : Nat → TypeId) : IFunc := ⟨19, [.tmp 2],
 .seq (.ops [⟨some 2, .move (.const (.int .i64 0)), none⟩])
 (.seq (.ops [⟨some 3, .move (.const (.int .i64 0)), none⟩])
 (.seq (.seq (.ops [⟨some 4, .move (.const (.int .i64 0)), none⟩])
 (.block 0 (.loop (.seq (.seq (.ops [⟨some 5, .move (.tmp 4), none⟩,
 ⟨some 6, .move (.tmp 0), none⟩,
 ⟨some 7, .lenSl (.tmp 6), none⟩,
 ⟨some 8, .bin .lss (.tmp 5) (.tmp 7), none⟩])
 (.cond (.tmp 8)
 (.skip)
 (.exit 0)))
 (.seq (.block 1 (.ops [⟨some 11, .move (.tmp 3), none⟩,
 ⟨some 12, .move (.tmp 0), none⟩,
 ⟨some 13, .move (.tmp 4), none⟩,
 ⟨some 14, .idxSl 4 (.tmp 12) (.tmp 13), none⟩,
 ⟨some 15, .fieldAddr 2 (.tmp 14), none⟩,
 ⟨some 16, .load1 (.tmp 15), none⟩,
 ⟨some 17, .bin .add (.tmp 11) (.tmp 16), none⟩,
 ⟨some 3, .move (.tmp 17), none⟩]))
 (.ops [⟨some 9, .move (.tmp 4), none⟩,
 ⟨some 10, .bin .add (.tmp 9) (.const (.int .i64 1)), none⟩,
 ⟨some 4, .move (.tmp 10), none⟩]))))))
 (.seq (.ops [⟨some 18, .move (.tmp 3), none⟩,
 ⟨some 2, .move (.tmp 18), none⟩])
 (.ret))))⟩
/-- hurdle/hurdleref26.Same -/
def c_hurdleref26_Same (F : Nat → FuncId) (Ty : Nat → TypeId) : IFunc := ⟨26, [.tmp 4],
 .seq (.ops [⟨some 4, .move (.const (.bool false)), none⟩])
 (.seq (.seq (.ops [⟨some 6, .move (.tmp 0), none⟩,
 ⟨some 7, .lenSl (.tmp 6), none⟩,
 ⟨some 8, .move (.tmp 1), none⟩,
 ⟨some 9, .lenSl (.tmp 8), none⟩,
 ⟨some 10, .bin .neq (.tmp 7) (.tmp 9), none⟩])
 (.cond (.tmp 10)
 (.seq (.ops [⟨some 4, .move (.const (.bool false)), none⟩])
 (.ret))
 (.skip)))
 (.seq (.seq (.ops [⟨some 5, .move (.const (.int .i64 0)), none⟩])
 (.block 0 (.loop (.seq (.seq (.ops [⟨some 11, .move (.tmp 5), none⟩,
 ⟨some 12, .move (.tmp 0), none⟩,
 ⟨some 13, .lenSl (.tmp 12), none⟩,
 ⟨some 14, .bin .lss (.tmp 11) (.tmp 13), none⟩])
 (.cond (.tmp 14)
 (.skip)
 (.exit 0)))
 (.seq (.block 1 (.seq (.draw [(⟨some 17, .move (.tmp 0), none⟩, []),
 (⟨some 18, .move (.tmp 5), none⟩, []),
 (⟨some 19, .idxSl 4 (.tmp 17) (.tmp 18), none⟩, []),
 (⟨some 20, .loadN 4 (.tmp 19), none⟩, []),
 (⟨some 21, .move (.tmp 1), none⟩, []),
 (⟨some 22, .move (.tmp 5), none⟩, []),
 (⟨some 23, .idxSl 4 (.tmp 21) (.tmp 22), none⟩, []),
 (⟨some 24, .loadN 4 (.tmp 23), none⟩, []),
 (⟨some 25, .eqv true [.i .i64, .i .i64, .i .i64, .i .i64] (.tmp 20) (.tmp 24), none⟩, [])])
 (.cond (.tmp 25)
 (.seq (.ops [⟨some 4, .move (.const (.bool false)), none⟩])
 (.ret))
 (.skip))))
 (.ops [⟨some 15, .move (.tmp 5), none⟩,
 ⟨some 16, .bin .add (.tmp 15) (.const (.int .i64 1)), none⟩,
 ⟨some 5, .move (.tmp 16), none⟩]))))))
 (.seq (.ops [⟨some 4, .move (.const (.bool true)), none⟩])
 (.ret))))⟩
/-- A context has these functions. -/
structure HasRef26 (c : Ctx) : Prop where
 hurdleref26_may : c.IP (c.F 259) = some (c_hurdleref26_may c.F c.Ty)
 hurdleref26_find : c.IP (c.F 260) = some (c_hurdleref26_find c.F c.Ty)
 hurdleref26_Add : c.IP (c.F 261) = some (c_hurdleref26_Add c.F c.Ty)
 hurdleref26_Dead : c.IP (c.F 262) = some (c_hurdleref26_Dead c.F c.Ty)
 hurdleref26_Drop : c.IP (c.F 263) = some (c_hurdleref26_Drop c.F c.Ty)
 hurdleref26_Score : c.IP (c.F 264) = some (c_hurdleref26_Score c.F c.Ty)
 hurdleref26_Pick : c.IP (c.F 265) = some (c_hurdleref26_Pick c.F c.Ty)
 hurdleref26_Empty : c.IP (c.F 266) = some (c_hurdleref26_Empty c.F c.Ty)
 hurdleref26_Live : c.IP (c.F 267) = some (c_hurdleref26_Live c.F c.Ty)
 hurdleref26_Same : c.IP (c.F 268) = some (c_hurdleref26_Same c.F c.Ty)

end Go.Proofs.YtdfjicnjcibdaaaI
