/- PRINTED by gen.py (this session's own): the intermediate form of some functions, and a context's having them. -/
import Derived.Test.YtfegliplajdgmaaIdealZ
namespace Go.Proofs.YtfegliplajdgmaaI
set_option linter.unusedSimpArgs false
set_option linter.unusedVariables false
open Go

/-- hurdle/hurdleref37.Name -/
abbrev n_hurdleref37_Name : Nat := 223
/-- hurdle/hurdleref37.find -/
abbrev n_hurdleref37_find : Nat := 224
/-- hurdle/hurdleref37.Add -/
abbrev n_hurdleref37_Add : Nat := 225
/-- hurdle/hurdleref37.Look -/
abbrev n_hurdleref37_Look : Nat := 226
/-- hurdle/hurdleref37.Remove -/
abbrev n_hurdleref37_Remove : Nat := 227
/-- hurdle/hurdleref37.Names -/
abbrev n_hurdleref37_Names : Nat := 228
/-- hurdle/hurdleref37.Text -/
abbrev n_hurdleref37_Text : Nat := 229
/-- hurdle/hurdleref37.Read -/
abbrev n_hurdleref37_Read : Nat := 230
/-- hurdle/hurdleref37.Name -/
def c_hurdleref37_Name (F : Nat → FuncId) (Ty : Nat → TypeId) : IFunc := ⟨35, [.tmp 2],
 .seq (.ops [⟨some 2, .move (.const (.bool false)), none⟩])
 (.seq (.seq (.ops [⟨some 3, .move (.const (.int .i64 0)), none⟩])
 (.block 0 (.loop (.seq (.seq (.ops [⟨some 4, .move (.tmp 3), none⟩,
 ⟨some 5, .move (.tmp 0), none⟩,
 ⟨some 6, .strLen (.tmp 5), none⟩,
 ⟨some 7, .bin .lss (.tmp 4) (.tmp 6), none⟩])
 (.cond (.tmp 7)
 (.skip)
 (.exit 0)))
 (.seq (.block 1 (.seq (.ops [⟨some 10, .move (.tmp 0), none⟩,
 ⟨some 11, .move (.tmp 3), none⟩,
 ⟨some 12, .strIdx (.tmp 10) (.tmp 11), none⟩,
 ⟨some 13, .bin .eql (.tmp 12) (.const (.int .u8 0)), none⟩,
 ⟨some 14, .move (.tmp 13), none⟩,
 ⟨some 15, .move (.tmp 0), some (14, false)⟩,
 ⟨some 16, .move (.tmp 3), some (14, false)⟩,
 ⟨some 17, .strIdx (.tmp 15) (.tmp 16), some (14, false)⟩,
 ⟨some 18, .bin .eql (.tmp 17) (.const (.int .u8 47)), some (14, false)⟩,
 ⟨some 19, .pick (.tmp 14) (.const (.bool true)) (.tmp 18), none⟩])
 (.cond (.tmp 19)
 (.seq (.ops [⟨some 2, .move (.const (.bool false)), none⟩])
 (.ret))
 (.skip))))
 (.ops [⟨some 8, .move (.tmp 3), none⟩,
 ⟨some 9, .bin .add (.tmp 8) (.const (.int .i64 1)), none⟩,
 ⟨some 3, .move (.tmp 9), none⟩]))))))
 (.seq (.ops [⟨some 20, .move (.tmp 0), none⟩,
 ⟨some 21, .bin .neq (.tmp 20) (.const (.string ⟨#[]⟩)), none⟩,
 ⟨some 22, .move (.tmp 21), none⟩,
 ⟨some 23, .move (.tmp 0), some (22, true)⟩,
 ⟨some 24, .strLen (.tmp 23), some (22, true)⟩,
 ⟨some 25, .bin .leq (.tmp 24) (.const (.int .i64 28)), some (22, true)⟩,
 ⟨some 26, .pick (.tmp 22) (.tmp 25) (.const (.bool false)), none⟩,
 ⟨some 27, .move (.tmp 26), none⟩,
 ⟨some 28, .move (.tmp 0), some (27, true)⟩,
 ⟨some 29, .bin .neq (.tmp 28) (.const (.string ⟨#[46]⟩)), some (27, true)⟩,
 ⟨some 30, .pick (.tmp 27) (.tmp 29) (.const (.bool false)), none⟩,
 ⟨some 31, .move (.tmp 30), none⟩,
 ⟨some 32, .move (.tmp 0), some (31, true)⟩,
 ⟨some 33, .bin .neq (.tmp 32) (.const (.string ⟨#[46, 46]⟩)), some (31, true)⟩,
 ⟨some 34, .pick (.tmp 31) (.tmp 33) (.const (.bool false)), none⟩,
 ⟨some 2, .move (.tmp 34), none⟩])
 (.ret)))⟩
/-- hurdle/hurdleref37.find -/
def c_hurdleref37_find (F : Nat → FuncId) (Ty : Nat → TypeId) : IFunc := ⟨36, [.tmp 4, .tmp 5],
 .seq (.ops [⟨some 4, .move (.const (.int .i64 0)), none⟩,
 ⟨some 5, .move (.const (.bool false)), none⟩])
 (.seq (.ops [⟨some 6, .move (.const (.int .i64 0)), none⟩])
 (.seq (.block 0 (.loop (.seq (.seq (.ops [⟨some 7, .move (.tmp 6), none⟩,
 ⟨some 8, .move (.tmp 0), none⟩,
 ⟨some 9, .lenSl (.tmp 8), none⟩,
 ⟨some 10, .bin .lss (.tmp 7) (.tmp 9), none⟩,
 ⟨some 11, .move (.tmp 10), none⟩,
 ⟨some 12, .move (.tmp 0), some (11, true)⟩,
 ⟨some 13, .move (.tmp 6), some (11, true)⟩,
 ⟨some 14, .idxSl 2 (.tmp 12) (.tmp 13), some (11, true)⟩,
 ⟨some 15, .fieldAddr 0 (.tmp 14), some (11, true)⟩,
 ⟨some 16, .load1 (.tmp 15), some (11, true)⟩,
 ⟨some 17, .move (.tmp 1), some (11, true)⟩,
 ⟨some 18, .bin .lss (.tmp 16) (.tmp 17), some (11, true)⟩,
 ⟨some 19, .pick (.tmp 11) (.tmp 18) (.const (.bool false)), none⟩])
 (.cond (.tmp 19)
 (.skip)
 (.exit 0)))
 (.block 1 (.ops [⟨some 20, .move (.tmp 6), none⟩,
 ⟨some 21, .bin .add (.tmp 20) (.const (.int .i64 1)), none⟩,
 ⟨some 6, .move (.tmp 21), none⟩])))))
 (.seq (.draw [(⟨some 22, .move (.tmp 6), none⟩, []),
 (⟨some 23, .move (.tmp 6), none⟩, []),
 (⟨some 24, .move (.tmp 0), none⟩, []),
 (⟨some 25, .lenSl (.tmp 24), none⟩, []),
 (⟨some 26, .bin .lss (.tmp 23) (.tmp 25), none⟩, []),
 (⟨some 27, .move (.tmp 26), none⟩, []),
 (⟨some 28, .move (.tmp 0), some (27, true)⟩, []),
 (⟨some 29, .move (.tmp 6), some (27, true)⟩, []),
 (⟨some 30, .idxSl 2 (.tmp 28) (.tmp 29), some (27, true)⟩, []),
 (⟨some 31, .fieldAddr 0 (.tmp 30), some (27, true)⟩, []),
 (⟨some 32, .load1 (.tmp 31), some (27, true)⟩, []),
 (⟨some 33, .move (.tmp 1), some (27, true)⟩, []),
 (⟨some 34, .bin .eql (.tmp 32) (.tmp 33), some (27, true)⟩, []),
 (⟨some 35, .pick (.tmp 27) (.tmp 34) (.const (.bool false)), none⟩, []),
 (⟨some 4, .move (.tmp 22), none⟩, []),
 (⟨some 5, .move (.tmp 35), none⟩, [])])
 (.ret))))⟩
/-- hurdle/hurdleref37.Add -/
def c_hurdleref37_Add (F : Nat → FuncId) (Ty : Nat → TypeId) : IFunc := ⟨42, [.tmp 6, .tmp 7],
 .seq (.ops [⟨some 6, .move (.const (.slice none 0 0)), none⟩,
 ⟨some 7, .move (.const (.int .i64 0)), none⟩])
 (.seq (.seq (.ops [⟨some 10, .move (.tmp 2), none⟩,
 ⟨some 11, .bin .lss (.tmp 10) (.const (.int .i64 1)), none⟩,
 ⟨some 12, .move (.tmp 11), none⟩,
 ⟨some 13, .move (.tmp 2), some (12, false)⟩,
 ⟨some 14, .bin .geq (.tmp 13) (.const (.int .i64 256)), some (12, false)⟩,
 ⟨some 15, .pick (.tmp 12) (.const (.bool true)) (.tmp 14), none⟩])
 (.cond (.tmp 15)
 (.seq (.ops [⟨some 16, .move (.tmp 0), none⟩,
 ⟨some 6, .move (.tmp 16), none⟩,
 ⟨some 7, .move (.const (.int .i64 1)), none⟩])
 (.ret))
 (.skip)))
 (.seq (.seq (.ops [⟨some 17, .move (.tmp 1), none⟩,
 ⟨some 18, .call (F 223) [.tmp 17], none⟩,
 ⟨some 19, .un .not (.tmp 18), none⟩])
 (.cond (.tmp 19)
 (.seq (.ops [⟨some 20, .move (.tmp 0), none⟩,
 ⟨some 6, .move (.tmp 20), none⟩,
 ⟨some 7, .move (.const (.int .i64 15)), none⟩])
 (.ret))
 (.skip)))
 (.seq (.ops [⟨some 22, .move (.tmp 0), none⟩,
 ⟨some 23, .move (.tmp 1), none⟩,
 ⟨some 24, .call (F 224) [.tmp 22, .tmp 23], none⟩,
 ⟨some 21, .move (.tmp 24), none⟩,
 ⟨some 25, .extract (.tmp 21) 0, none⟩,
 ⟨some 26, .extract (.tmp 21) 1, none⟩,
 ⟨some 8, .move (.tmp 25), none⟩,
 ⟨some 9, .move (.tmp 26), none⟩])
 (.seq (.seq (.ops [⟨some 27, .move (.tmp 9), none⟩])
 (.cond (.tmp 27)
 (.seq (.ops [⟨some 28, .move (.tmp 0), none⟩,
 ⟨some 6, .move (.tmp 28), none⟩,
 ⟨some 7, .move (.const (.int .i64 6)), none⟩])
 (.ret))
 (.skip)))
 (.seq (.draw [(⟨some 29, .move (.tmp 0), none⟩, []),
 (⟨some 30, .move (.tmp 8), none⟩, []),
 (⟨some 31, .sliceSl 2 (.tmp 29) none (some (.tmp 30)) none, none⟩, []),
 (⟨some 33, .move (.tmp 1), none⟩, []),
 (⟨some 34, .move (.tmp 2), none⟩, []),
 (⟨some 35, .build [.string ⟨#[]⟩, .int .i64 0] [((0, 1), .tmp 33), ((1, 1), .tmp 34)], none⟩, []),
 (⟨some 36, .buildSlice 1 [.string ⟨#[]⟩, .int .i64 0] [((0, 2), .tmp 35)], none⟩, []),
 (⟨some 38, .move (.tmp 0), none⟩, []),
 (⟨some 39, .move (.tmp 8), none⟩, []),
 (⟨some 40, .sliceSl 2 (.tmp 38) (some (.tmp 39)) none none, none⟩, []),
 (⟨some 32, .append 2 24 (.const (.slice none 0 0)) (.tmp 31), none⟩, [⟨some 40, .sliceSl 2 (.tmp 38) (some (.tmp 39)) none none, none⟩]),
 (⟨some 37, .append 2 24 (.tmp 32) (.tmp 36), none⟩, [⟨some 40, .sliceSl 2 (.tmp 38) (some (.tmp 39)) none none, none⟩]),
 (⟨some 41, .append 2 24 (.tmp 37) (.tmp 40), none⟩, []),
 (⟨some 6, .move (.tmp 41), none⟩, []),
 (⟨some 7, .move (.const (.int .i64 0)), none⟩, [])])
 (.ret))))))⟩
/-- hurdle/hurdleref37.Look -/
def c_hurdleref37_Look (F : Nat → FuncId) (Ty : Nat → TypeId) : IFunc := ⟨21, [.tmp 4, .tmp 5],
 .seq (.ops [⟨some 4, .move (.const (.int .i64 0)), none⟩,
 ⟨some 5, .move (.const (.int .i64 0)), none⟩])
 (.seq (.ops [⟨some 9, .move (.tmp 0), none⟩,
 ⟨some 10, .move (.tmp 1), none⟩,
 ⟨some 11, .call (F 224) [.tmp 9, .tmp 10], none⟩,
 ⟨some 8, .move (.tmp 11), none⟩,
 ⟨some 12, .extract (.tmp 8) 0, none⟩,
 ⟨some 13, .extract (.tmp 8) 1, none⟩,
 ⟨some 6, .move (.tmp 12), none⟩,
 ⟨some 7, .move (.tmp 13), none⟩])
 (.seq (.seq (.ops [⟨some 14, .move (.tmp 7), none⟩,
 ⟨some 15, .un .not (.tmp 14), none⟩])
 (.cond (.tmp 15)
 (.seq (.ops [⟨some 4, .move (.const (.int .i64 0)), none⟩,
 ⟨some 5, .move (.const (.int .i64 7)), none⟩])
 (.ret))
 (.skip)))
 (.seq (.ops [⟨some 16, .move (.tmp 0), none⟩,
 ⟨some 17, .move (.tmp 6), none⟩,
 ⟨some 18, .idxSl 2 (.tmp 16) (.tmp 17), none⟩,
 ⟨some 19, .fieldAddr 1 (.tmp 18), none⟩,
 ⟨some 20, .load1 (.tmp 19), none⟩,
 ⟨some 4, .move (.tmp 20), none⟩,
 ⟨some 5, .move (.const (.int .i64 0)), none⟩])
 (.ret))))⟩
/-- hurdle/hurdleref37.Remove -/
def c_hurdleref37_Remove (F : Nat → FuncId) (Ty : Nat → TypeId) : IFunc := ⟨32, [.tmp 4, .tmp 5, .tmp 6],
 .seq (.ops [⟨some 4, .move (.const (.slice none 0 0)), none⟩,
 ⟨some 5, .move (.const (.int .i64 0)), none⟩,
 ⟨some 6, .move (.const (.int .i64 0)), none⟩])
 (.seq (.ops [⟨some 10, .move (.tmp 0), none⟩,
 ⟨some 11, .move (.tmp 1), none⟩,
 ⟨some 12, .call (F 224) [.tmp 10, .tmp 11], none⟩,
 ⟨some 9, .move (.tmp 12), none⟩,
 ⟨some 13, .extract (.tmp 9) 0, none⟩,
 ⟨some 14, .extract (.tmp 9) 1, none⟩,
 ⟨some 7, .move (.tmp 13), none⟩,
 ⟨some 8, .move (.tmp 14), none⟩])
 (.seq (.seq (.ops [⟨some 15, .move (.tmp 8), none⟩,
 ⟨some 16, .un .not (.tmp 15), none⟩])
 (.cond (.tmp 16)
 (.seq (.ops [⟨some 17, .move (.tmp 0), none⟩,
 ⟨some 4, .move (.tmp 17), none⟩,
 ⟨some 5, .move (.const (.int .i64 0)), none⟩,
 ⟨some 6, .move (.const (.int .i64 7)), none⟩])
 (.ret))
 (.skip)))
 (.seq (.draw [(⟨some 18, .move (.tmp 0), none⟩, []),
 (⟨some 19, .move (.tmp 7), none⟩, []),
 (⟨some 20, .sliceSl 2 (.tmp 18) none (some (.tmp 19)) none, none⟩, []),
 (⟨some 22, .move (.tmp 0), none⟩, []),
 (⟨some 23, .move (.tmp 7), none⟩, []),
 (⟨some 24, .bin .add (.tmp 23) (.const (.int .i64 1)), none⟩, []),
 (⟨some 25, .sliceSl 2 (.tmp 22) (some (.tmp 24)) none none, none⟩, []),
 (⟨some 27, .move (.tmp 0), none⟩, []),
 (⟨some 28, .move (.tmp 7), none⟩, []),
 (⟨some 29, .idxSl 2 (.tmp 27) (.tmp 28), none⟩, []),
 (⟨some 30, .fieldAddr 1 (.tmp 29), none⟩, []),
 (⟨some 31, .load1 (.tmp 30), none⟩, []),
 (⟨some 21, .append 2 24 (.const (.slice none 0 0)) (.tmp 20), none⟩, [⟨some 25, .sliceSl 2 (.tmp 22) (some (.tmp 24)) none none, none⟩, ⟨some 31, .load1 (.tmp 30), none⟩]),
 (⟨some 26, .append 2 24 (.tmp 21) (.tmp 25), none⟩, [⟨some 31, .load1 (.tmp 30), none⟩]),
 (⟨some 4, .move (.tmp 26), none⟩, []),
 (⟨some 5, .move (.tmp 31), none⟩, []),
 (⟨some 6, .move (.const (.int .i64 0)), none⟩, [])])
 (.ret))))⟩
/-- hurdle/hurdleref37.Names -/
def c_hurdleref37_Names (F : Nat → FuncId) (Ty : Nat → TypeId) : IFunc := ⟨20, [.tmp 2],
 .seq (.ops [⟨some 2, .move (.const (.slice none 0 0)), none⟩])
 (.seq (.ops [⟨some 3, .move (.const (.slice none 0 0)), none⟩])
 (.seq (.seq (.ops [⟨some 4, .move (.const (.int .i64 0)), none⟩])
 (.block 0 (.loop (.seq (.seq (.ops [⟨some 5, .move (.tmp 4), none⟩,
 ⟨some 6, .move (.tmp 0), none⟩,
 ⟨some 7, .lenSl (.tmp 6), none⟩,
 ⟨some 8, .bin .lss (.tmp 5) (.tmp 7), none⟩])
 (.cond (.tmp 8)
 (.skip)
 (.exit 0)))
 (.seq (.block 1 (.ops [⟨some 11, .move (.tmp 3), none⟩,
 ⟨some 12, .move (.tmp 0), none⟩,
 ⟨some 13, .move (.tmp 4), none⟩,
 ⟨some 14, .idxSl 2 (.tmp 12) (.tmp 13), none⟩,
 ⟨some 15, .fieldAddr 0 (.tmp 14), none⟩,
 ⟨some 16, .load1 (.tmp 15), none⟩,
 ⟨some 17, .buildSlice 1 [.string ⟨#[]⟩] [((0, 1), .tmp 16)], none⟩,
 ⟨some 18, .append 1 16 (.tmp 11) (.tmp 17), none⟩,
 ⟨some 3, .move (.tmp 18), none⟩]))
 (.ops [⟨some 9, .move (.tmp 4), none⟩,
 ⟨some 10, .bin .add (.tmp 9) (.const (.int .i64 1)), none⟩,
 ⟨some 4, .move (.tmp 10), none⟩]))))))
 (.seq (.ops [⟨some 19, .move (.tmp 3), none⟩,
 ⟨some 2, .move (.tmp 19), none⟩])
 (.ret))))⟩
/-- hurdle/hurdleref37.Text -/
def c_hurdleref37_Text (F : Nat → FuncId) (Ty : Nat → TypeId) : IFunc := ⟨30, [.tmp 2],
 .seq (.ops [⟨some 2, .move (.const (.string ⟨#[]⟩)), none⟩])
 (.seq (.ops [⟨some 5, .move (.tmp 0), none⟩,
 ⟨some 6, .lenSl (.tmp 5), none⟩,
 ⟨some 7, .call (F 62) [.tmp 6], none⟩,
 ⟨some 3, .move (.tmp 7), none⟩])
 (.seq (.seq (.ops [⟨some 4, .move (.const (.int .i64 0)), none⟩])
 (.block 0 (.loop (.seq (.seq (.ops [⟨some 8, .move (.tmp 4), none⟩,
 ⟨some 9, .move (.tmp 0), none⟩,
 ⟨some 10, .lenSl (.tmp 9), none⟩,
 ⟨some 11, .bin .lss (.tmp 8) (.tmp 10), none⟩])
 (.cond (.tmp 11)
 (.skip)
 (.exit 0)))
 (.seq (.block 1 (.draw [(⟨some 14, .move (.tmp 3), none⟩, []),
 (⟨some 15, .move (.tmp 0), none⟩, []),
 (⟨some 16, .move (.tmp 4), none⟩, []),
 (⟨some 17, .idxSl 2 (.tmp 15) (.tmp 16), none⟩, []),
 (⟨some 18, .fieldAddr 0 (.tmp 17), none⟩, []),
 (⟨some 19, .load1 (.tmp 18), none⟩, []),
 (⟨some 21, .move (.tmp 0), none⟩, []),
 (⟨some 22, .move (.tmp 4), none⟩, []),
 (⟨some 23, .idxSl 2 (.tmp 21) (.tmp 22), none⟩, []),
 (⟨some 24, .fieldAddr 1 (.tmp 23), none⟩, []),
 (⟨some 25, .load1 (.tmp 24), none⟩, []),
 (⟨some 20, .call (F 59) [.tmp 19], none⟩, [⟨some 25, .load1 (.tmp 24), none⟩]),
 (⟨some 26, .call (F 62) [.tmp 25], none⟩, []),
 (⟨some 27, .bin .add (.tmp 20) (.tmp 26), none⟩, []),
 (⟨some 28, .bin .add (.tmp 14) (.tmp 27), none⟩, []),
 (⟨some 3, .move (.tmp 28), none⟩, [])]))
 (.ops [⟨some 12, .move (.tmp 4), none⟩,
 ⟨some 13, .bin .add (.tmp 12) (.const (.int .i64 1)), none⟩,
 ⟨some 4, .move (.tmp 13), none⟩]))))))
 (.seq (.ops [⟨some 29, .move (.tmp 3), none⟩,
 ⟨some 2, .move (.tmp 29), none⟩])
 (.ret))))⟩
/-- hurdle/hurdleref37.Read -/
def c_hurdleref37_Read (F : Nat → FuncId) (Ty : Nat → TypeId) : IFunc := ⟨80, [.tmp 2, .tmp 3],
 .seq (.ops [⟨some 2, .move (.const (.slice none 0 0)), none⟩,
 ⟨some 3, .move (.const (.int .i64 0)), none⟩])
 (.seq (.ops [⟨some 14, .move (.tmp 0), none⟩,
 ⟨some 15, .build [.string ⟨#[]⟩, .bool false] [((0, 1), .tmp 14)], none⟩,
 ⟨some 16, .call (F 67) [.tmp 15], none⟩,
 ⟨some 13, .move (.tmp 16), none⟩,
 ⟨some 17, .extract (.tmp 13) 0, none⟩,
 ⟨some 18, .extract (.tmp 13) 1, none⟩,
 ⟨some 4, .alloc [.string ⟨#[]⟩, .bool false], none⟩,
 ⟨none, .store 2 (.tmp 4) (.tmp 17), none⟩,
 ⟨some 5, .move (.tmp 18), none⟩])
 (.seq (.seq (.ops [⟨some 19, .fieldAddr 1 (.tmp 4), none⟩,
 ⟨some 20, .load1 (.tmp 19), none⟩,
 ⟨some 21, .move (.tmp 20), none⟩,
 ⟨some 22, .move (.tmp 5), some (21, false)⟩,
 ⟨some 23, .bin .lss (.tmp 22) (.const (.int .i64 0)), some (21, false)⟩,
 ⟨some 24, .pick (.tmp 21) (.const (.bool true)) (.tmp 23), none⟩,
 ⟨some 25, .move (.tmp 24), none⟩,
 ⟨some 26, .move (.tmp 5), some (25, false)⟩,
 ⟨some 27, .fieldAddr 0 (.tmp 4), some (25, false)⟩,
 ⟨some 28, .load1 (.tmp 27), some (25, false)⟩,
 ⟨some 29, .strLen (.tmp 28), some (25, false)⟩,
 ⟨some 30, .bin .gtr (.tmp 26) (.tmp 29), some (25, false)⟩,
 ⟨some 31, .pick (.tmp 25) (.const (.bool true)) (.tmp 30), none⟩])
 (.cond (.tmp 31)
 (.seq (.ops [⟨some 2, .move (.const (.slice none 0 0)), none⟩,
 ⟨some 3, .move (.const (.int .i64 3)), none⟩])
 (.ret))
 (.skip)))
 (.seq (.ops [⟨some 6, .move (.const (.slice none 0 0)), none⟩])
 (.seq (.seq (.ops [⟨some 7, .move (.const (.int .i64 0)), none⟩])
 (.block 0 (.loop (.seq (.seq (.ops [⟨some 32, .move (.tmp 7), none⟩,
 ⟨some 33, .move (.tmp 5), none⟩,
 ⟨some 34, .bin .lss (.tmp 32) (.tmp 33), none⟩])
 (.cond (.tmp 34)
 (.skip)
 (.exit 0)))
 (.seq (.block 1 (.seq (.ops [⟨some 38, .loadN 2 (.tmp 4), none⟩,
 ⟨some 39, .call (F 64) [.tmp 38], none⟩,
 ⟨some 37, .move (.tmp 39), none⟩,
 ⟨some 40, .extract (.tmp 37) 0, none⟩,
 ⟨some 41, .extract (.tmp 37) 1, none⟩,
 ⟨some 8, .alloc [.string ⟨#[]⟩, .bool false], none⟩,
 ⟨none, .store 2 (.tmp 8) (.tmp 40), none⟩,
 ⟨some 9, .move (.tmp 41), none⟩])
 (.seq (.ops [⟨some 43, .loadN 2 (.tmp 8), none⟩,
 ⟨some 44, .call (F 67) [.tmp 43], none⟩,
 ⟨some 42, .move (.tmp 44), none⟩,
 ⟨some 45, .extract (.tmp 42) 0, none⟩,
 ⟨some 46, .extract (.tmp 42) 1, none⟩,
 ⟨none, .store 2 (.tmp 8) (.tmp 45), none⟩,
 ⟨some 10, .move (.tmp 46), none⟩])
 (.seq (.ops [⟨some 48, .move (.tmp 6), none⟩,
 ⟨some 49, .move (.tmp 9), none⟩,
 ⟨some 50, .move (.tmp 10), none⟩,
 ⟨some 51, .call (F 225) [.tmp 48, .tmp 49, .tmp 50], none⟩,
 ⟨some 47, .move (.tmp 51), none⟩,
 ⟨some 52, .extract (.tmp 47) 0, none⟩,
 ⟨some 53, .extract (.tmp 47) 1, none⟩,
 ⟨some 11, .move (.tmp 52), none⟩,
 ⟨some 12, .move (.tmp 53), none⟩])
 (.seq (.seq (.ops [⟨some 54, .fieldAddr 1 (.tmp 8), none⟩,
 ⟨some 55, .load1 (.tmp 54), none⟩,
 ⟨some 56, .move (.tmp 55), none⟩,
 ⟨some 57, .move (.tmp 12), some (56, false)⟩,
 ⟨some 58, .bin .neq (.tmp 57) (.const (.int .i64 0)), some (56, false)⟩,
 ⟨some 59, .pick (.tmp 56) (.const (.bool true)) (.tmp 58), none⟩,
 ⟨some 60, .move (.tmp 59), none⟩,
 ⟨some 61, .move (.tmp 7), some (60, false)⟩,
 ⟨some 62, .bin .gtr (.tmp 61) (.const (.int .i64 0)), some (60, false)⟩,
 ⟨some 63, .move (.tmp 62), some (60, false)⟩,
 ⟨some 64, .move (.tmp 6), some (63, true)⟩,
 ⟨some 65, .move (.tmp 7), some (63, true)⟩,
 ⟨some 66, .bin .sub (.tmp 65) (.const (.int .i64 1)), some (63, true)⟩,
 ⟨some 67, .idxSl 2 (.tmp 64) (.tmp 66), some (63, true)⟩,
 ⟨some 68, .fieldAddr 0 (.tmp 67), some (63, true)⟩,
 ⟨some 69, .load1 (.tmp 68), some (63, true)⟩,
 ⟨some 70, .move (.tmp 9), some (63, true)⟩,
 ⟨some 71, .bin .geq (.tmp 69) (.tmp 70), some (63, true)⟩,
 ⟨some 72, .pick (.tmp 63) (.tmp 71) (.const (.bool false)), some (60, false)⟩,
 ⟨some 73, .pick (.tmp 60) (.const (.bool true)) (.tmp 72), none⟩])
 (.cond (.tmp 73)
 (.seq (.ops [⟨some 2, .move (.const (.slice none 0 0)), none⟩,
 ⟨some 3, .move (.const (.int .i64 3)), none⟩])
 (.ret))
 (.skip)))
 (.seq (.ops [⟨some 74, .loadN 2 (.tmp 8), none⟩,
 ⟨none, .store 2 (.tmp 4) (.tmp 74), none⟩])
 (.ops [⟨some 75, .move (.tmp 11), none⟩,
 ⟨some 6, .move (.tmp 75), none⟩])))))))
 (.ops [⟨some 35, .move (.tmp 7), none⟩,
 ⟨some 36, .bin .add (.tmp 35) (.const (.int .i64 1)), none⟩,
 ⟨some 7, .move (.tmp 36), none⟩]))))))
 (.seq (.seq (.ops [⟨some 76, .loadN 2 (.tmp 4), none⟩,
 ⟨some 77, .call (F 56) [.tmp 76], none⟩,
 ⟨some 78, .bin .neq (.tmp 77) (.const (.int .i64 0)), none⟩])
 (.cond (.tmp 78)
 (.seq (.ops [⟨some 2, .move (.const (.slice none 0 0)), none⟩,
 ⟨some 3, .move (.const (.int .i64 3)), none⟩])
 (.ret))
 (.skip)))
 (.seq (.ops [⟨some 79, .move (.tmp 6), none⟩,
 ⟨some 2, .move (.tmp 79), none⟩,
 ⟨some 3, .move (.const (.int .i64 0)), none⟩])
 (.ret)))))))⟩
/-- A context has these functions. -/
structure HasRef37 (c : Ctx) : Prop where
 hurdleref37_Name : c.IP (c.F 223) = some (c_hurdleref37_Name c.F c.Ty)
 hurdleref37_find : c.IP (c.F 224) = some (c_hurdleref37_find c.F c.Ty)
 hurdleref37_Add : c.IP (c.F 225) = some (c_hurdleref37_Add c.F c.Ty)
 hurdleref37_Look : c.IP (c.F 226) = some (c_hurdleref37_Look c.F c.Ty)
 hurdleref37_Remove : c.IP (c.F 227) = some (c_hurdleref37_Remove c.F c.Ty)
 hurdleref37_Names : c.IP (c.F 228) = some (c_hurdleref37_Names c.F c.Ty)
 hurdleref37_Text : c.IP (c.F 229) = some (c_hurdleref37_Text c.F c.Ty)
 hurdleref37_Read : c.IP (c.F 230) = some (c_hurdleref37_Read c.F c.Ty)

end Go.Proofs.YtfegliplajdgmaaI
