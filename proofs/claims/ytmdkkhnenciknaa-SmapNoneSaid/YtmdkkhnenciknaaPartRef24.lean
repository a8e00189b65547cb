/- PRINTED by gen.py (this session's own): the intermediate form of some functions, and a context's having them. -/
import Derived.Test.YtmdkkhnenciknaaIdealY
namespace Go.Proofs.YtmdkkhnenciknaaI
set_option linter.unusedSimpArgs false
set_option linter.unusedVariables false
open Go

/-- hurdle/hurdleref24.may -/
abbrev n_hurdleref24_may : Nat := 155
/-- hurdle/hurdleref24.List -/
abbrev n_hurdleref24_List : Nat := 156
/-- hurdle/hurdleref24.Begin -/
abbrev n_hurdleref24_Begin : Nat := 157
/-- hurdle/hurdleref24.known -/
abbrev n_hurdleref24_known : Nat := 158
/-- hurdle/hurdleref24.state -/
abbrev n_hurdleref24_state : Nat := 159
/-- hurdle/hurdleref24.Commit -/
abbrev n_hurdleref24_Commit : Nat := 160
/-- hurdle/hurdleref24.Free -/
abbrev n_hurdleref24_Free : Nat := 161
/-- hurdle/hurdleref24.Drop -/
abbrev n_hurdleref24_Drop : Nat := 162
/-- hurdle/hurdleref24.Move -/
abbrev n_hurdleref24_Move : Nat := 163
/-- hurdle/hurdleref24.On -/
abbrev n_hurdleref24_On : Nat := 164
/-- hurdle/hurdleref24.Text -/
abbrev n_hurdleref24_Text : Nat := 165
/-- hurdle/hurdleref24.Read -/
abbrev n_hurdleref24_Read : Nat := 166
/-- hurdle/hurdleref24.Same -/
abbrev n_hurdleref24_Same : Nat := 167
/-- hurdle/hurdleref24.Get -/
abbrev n_hurdleref24_Get : Nat := 168
/-- hurdle/hurdleref24.may -/
def c_hurdleref24_may (F : Nat → FuncId) (Ty : Nat → TypeId) : IFunc := ⟨31, [.tmp 2],
 .seq (.ops [⟨some 1, .box (.tmp 0), none⟩,
 ⟨some 2, .move (.const (.bool false)), none⟩])
 (.seq (.ops [⟨some 3, .fieldAddr 2 (.tmp 1), none⟩,
 ⟨some 4, .load1 (.tmp 3), none⟩,
 ⟨some 5, .bin .geq (.tmp 4) (.const (.int .i64 0)), none⟩,
 ⟨some 6, .move (.tmp 5), none⟩,
 ⟨some 7, .fieldAddr 2 (.tmp 1), some (6, true)⟩,
 ⟨some 8, .load1 (.tmp 7), some (6, true)⟩,
 ⟨some 9, .bin .lss (.tmp 8) (.const (.int .i64 16)), some (6, true)⟩,
 ⟨some 10, .pick (.tmp 6) (.tmp 9) (.const (.bool false)), none⟩,
 ⟨some 11, .move (.tmp 10), none⟩,
 ⟨some 12, .fieldAddr 3 (.tmp 1), some (11, true)⟩,
 ⟨some 13, .load1 (.tmp 12), some (11, true)⟩,
 ⟨some 14, .bin .geq (.tmp 13) (.const (.int .i64 1)), some (11, true)⟩,
 ⟨some 15, .pick (.tmp 11) (.tmp 14) (.const (.bool false)), none⟩,
 ⟨some 16, .move (.tmp 15), none⟩,
 ⟨some 17, .fieldAddr 4 (.tmp 1), some (16, true)⟩,
 ⟨some 18, .load1 (.tmp 17), some (16, true)⟩,
 ⟨some 19, .bin .geq (.tmp 18) (.const (.int .i64 0)), some (16, true)⟩,
 ⟨some 20, .pick (.tmp 16) (.tmp 19) (.const (.bool false)), none⟩,
 ⟨some 21, .move (.tmp 20), none⟩,
 ⟨some 22, .fieldAddr 4 (.tmp 1), some (21, true)⟩,
 ⟨some 23, .load1 (.tmp 22), some (21, true)⟩,
 ⟨some 24, .bin .leq (.tmp 23) (.const (.int .i64 65536)), some (21, true)⟩,
 ⟨some 25, .pick (.tmp 21) (.tmp 24) (.const (.bool false)), none⟩,
 ⟨some 26, .move (.tmp 25), none⟩,
 ⟨some 27, .fieldAddr 5 (.tmp 1), some (26, true)⟩,
 ⟨some 28, .load1 (.tmp 27), some (26, true)⟩,
 ⟨some 29, .call (F 118) [.tmp 28], some (26, true)⟩,
 ⟨some 30, .pick (.tmp 26) (.tmp 29) (.const (.bool false)), none⟩,
 ⟨some 2, .move (.tmp 30), none⟩])
 (.ret))⟩
/-- hurdle/hurdleref24.List -/
def c_hurdleref24_List (F : Nat → FuncId) (Ty : Nat → TypeId) : IFunc := ⟨25, [.tmp 4],
 .seq (.ops [⟨some 4, .move (.const (.slice none 0 0)), none⟩])
 (.seq (.ops [⟨some 5, .move (.const (.slice none 0 0)), none⟩])
 (.seq (.seq (.ops [⟨some 6, .move (.const (.int .i64 0)), none⟩])
 (.block 0 (.loop (.seq (.seq (.ops [⟨some 7, .move (.tmp 6), none⟩,
 ⟨some 8, .move (.tmp 0), none⟩,
 ⟨some 9, .lenSl (.tmp 8), none⟩,
 ⟨some 10, .bin .lss (.tmp 7) (.tmp 9), none⟩])
 (.cond (.tmp 10)
 (.skip)
 (.exit 0)))
 (.seq (.block 1 (.seq (.ops [⟨some 13, .move (.tmp 0), none⟩,
 ⟨some 14, .move (.tmp 6), none⟩,
 ⟨some 15, .idxSl 6 (.tmp 13) (.tmp 14), none⟩,
 ⟨some 16, .fieldAddr 1 (.tmp 15), none⟩,
 ⟨some 17, .load1 (.tmp 16), none⟩,
 ⟨some 18, .move (.tmp 1), none⟩,
 ⟨some 19, .bin .eql (.tmp 17) (.tmp 18), none⟩])
 (.cond (.tmp 19)
 (.ops [⟨some 20, .move (.tmp 5), none⟩,
 ⟨some 21, .move (.tmp 6), none⟩,
 ⟨some 22, .buildSlice 1 [.int .i64 0] [((0, 1), .tmp 21)], none⟩,
 ⟨some 23, .append 1 8 (.tmp 20) (.tmp 22), none⟩,
 ⟨some 5, .move (.tmp 23), none⟩])
 (.skip))))
 (.ops [⟨some 11, .move (.tmp 6), none⟩,
 ⟨some 12, .bin .add (.tmp 11) (.const (.int .i64 1)), none⟩,
 ⟨some 6, .move (.tmp 12), none⟩]))))))
 (.seq (.ops [⟨some 24, .move (.tmp 5), none⟩,
 ⟨some 4, .move (.tmp 24), none⟩])
 (.ret))))⟩
/-- hurdle/hurdleref24.Begin -/
def c_hurdleref24_Begin (F : Nat → FuncId) (Ty : Nat → TypeId) : IFunc := ⟨46, [.tmp 10, .tmp 11, .tmp 12],
 .seq (.ops [⟨some 10, .move (.const (.slice none 0 0)), none⟩,
 ⟨some 11, .move (.const (.int .i64 0)), none⟩,
 ⟨some 12, .move (.const (.int .i64 0)), none⟩])
 (.seq (.ops [⟨some 14, .move (.tmp 0), none⟩,
 ⟨some 15, .lenSl (.tmp 14), none⟩,
 ⟨some 16, .move (.tmp 1), none⟩,
 ⟨some 17, .move (.tmp 2), none⟩,
 ⟨some 18, .move (.tmp 3), none⟩,
 ⟨some 19, .move (.tmp 4), none⟩,
 ⟨some 20, .append 1 8 (.const (.slice none 0 0)) (.tmp 19), none⟩,
 ⟨some 21, .build [.int .i64 0, .int .i64 0, .int .i64 0, .int .i64 0, .int .i64 0, .slice none 0 0] [((0, 1), .tmp 15), ((1, 1), .const (.int .i64 1)), ((2, 1), .tmp 16), ((3, 1), .tmp 17), ((4, 1), .tmp 18), ((5, 1), .tmp 20)], none⟩,
 ⟨some 13, .alloc [.int .i64 0, .int .i64 0, .int .i64 0, .int .i64 0, .int .i64 0, .slice none 0 0], none⟩,
 ⟨none, .store 6 (.tmp 13) (.tmp 21), none⟩])
 (.seq (.seq (.ops [⟨some 22, .loadN 6 (.tmp 13), none⟩,
 ⟨some 23, .call (F 155) [.tmp 22], none⟩,
 ⟨some 24, .un .not (.tmp 23), none⟩])
 (.cond (.tmp 24)
 (.seq (.ops [⟨some 25, .move (.tmp 0), none⟩,
 ⟨some 10, .move (.tmp 25), none⟩,
 ⟨some 11, .move (.const (.int .i64 0)), none⟩,
 ⟨some 12, .move (.const (.int .i64 1)), none⟩])
 (.ret))
 (.skip)))
 (.seq (.seq (.ops [⟨some 26, .move (.tmp 0), none⟩,
 ⟨some 27, .lenSl (.tmp 26), none⟩,
 ⟨some 28, .move (.tmp 0), none⟩,
 ⟨some 29, .call (F 156) [.tmp 28, .const (.int .i64 3)], none⟩,
 ⟨some 30, .lenSl (.tmp 29), none⟩,
 ⟨some 31, .bin .sub (.tmp 27) (.tmp 30), none⟩,
 ⟨some 32, .bin .geq (.tmp 31) (.const (.int .i64 256)), none⟩,
 ⟨some 33, .move (.tmp 32), none⟩,
 ⟨some 34, .move (.tmp 0), some (33, false)⟩,
 ⟨some 35, .lenSl (.tmp 34), some (33, false)⟩,
 ⟨some 36, .bin .geq (.tmp 35) (.const (.int .i64 4096)), some (33, false)⟩,
 ⟨some 37, .pick (.tmp 33) (.const (.bool true)) (.tmp 36), none⟩])
 (.cond (.tmp 37)
 (.seq (.ops [⟨some 38, .move (.tmp 0), none⟩,
 ⟨some 10, .move (.tmp 38), none⟩,
 ⟨some 11, .move (.const (.int .i64 0)), none⟩,
 ⟨some 12, .move (.const (.int .i64 5)), none⟩])
 (.ret))
 (.skip)))
 (.seq (.draw [(⟨some 39, .move (.tmp 0), none⟩, []),
 (⟨some 41, .loadN 6 (.tmp 13), none⟩, []),
 (⟨some 42, .buildSlice 1 [.int .i64 0, .int .i64 0, .int .i64 0, .int .i64 0, .int .i64 0, .slice none 0 0] [((0, 6), .tmp 41)], none⟩, []),
 (⟨some 44, .fieldAddr 0 (.tmp 13), none⟩, []),
 (⟨some 45, .load1 (.tmp 44), none⟩, []),
 (⟨some 40, .append 6 64 (.const (.slice none 0 0)) (.tmp 39), none⟩, [⟨some 41, .loadN 6 (.tmp 13), none⟩, ⟨some 45, .load1 (.tmp 44), none⟩]),
 (⟨some 43, .append 6 64 (.tmp 40) (.tmp 42), none⟩, [⟨some 45, .load1 (.tmp 44), none⟩]),
 (⟨some 10, .move (.tmp 43), none⟩, []),
 (⟨some 11, .move (.tmp 45), none⟩, []),
 (⟨some 12, .move (.const (.int .i64 0)), none⟩, [])])
 (.ret)))))⟩
/-- hurdle/hurdleref24.known -/
def c_hurdleref24_known (F : Nat → FuncId) (Ty : Nat → TypeId) : IFunc := ⟨13, [.tmp 4],
 .seq (.ops [⟨some 4, .move (.const (.bool false)), none⟩])
 (.seq (.ops [⟨some 5, .move (.tmp 1), none⟩,
 ⟨some 6, .bin .geq (.tmp 5) (.const (.int .i64 0)), none⟩,
 ⟨some 7, .move (.tmp 6), none⟩,
 ⟨some 8, .move (.tmp 1), some (7, true)⟩,
 ⟨some 9, .move (.tmp 0), some (7, true)⟩,
 ⟨some 10, .lenSl (.tmp 9), some (7, true)⟩,
 ⟨some 11, .bin .lss (.tmp 8) (.tmp 10), some (7, true)⟩,
 ⟨some 12, .pick (.tmp 7) (.tmp 11) (.const (.bool false)), none⟩,
 ⟨some 4, .move (.tmp 12), none⟩])
 (.ret))⟩
/-- hurdle/hurdleref24.state -/
def c_hurdleref24_state (F : Nat → FuncId) (Ty : Nat → TypeId) : IFunc := ⟨16, [.tmp 6],
 .seq (.ops [⟨some 6, .move (.const (.slice none 0 0)), none⟩])
 (.seq (.ops [⟨some 8, .move (.tmp 0), none⟩,
 ⟨some 9, .append 6 64 (.const (.slice none 0 0)) (.tmp 8), none⟩,
 ⟨some 7, .move (.tmp 9), none⟩])
 (.seq (.ops [⟨some 10, .move (.tmp 7), none⟩,
 ⟨some 11, .move (.tmp 1), none⟩,
 ⟨some 12, .move (.tmp 2), none⟩,
 ⟨some 13, .idxSl 6 (.tmp 10) (.tmp 11), none⟩,
 ⟨some 14, .fieldAddr 1 (.tmp 13), none⟩,
 ⟨none, .store 1 (.tmp 14) (.tmp 12), none⟩])
 (.seq (.ops [⟨some 15, .move (.tmp 7), none⟩,
 ⟨some 6, .move (.tmp 15), none⟩])
 (.ret))))⟩
/-- hurdle/hurdleref24.Commit -/
def c_hurdleref24_Commit (F : Nat → FuncId) (Ty : Nat → TypeId) : IFunc := ⟨32, [.tmp 6, .tmp 7],
 .seq (.ops [⟨some 6, .move (.const (.slice none 0 0)), none⟩,
 ⟨some 7, .move (.const (.int .i64 0)), none⟩])
 (.seq (.seq (.ops [⟨some 8, .move (.tmp 0), none⟩,
 ⟨some 9, .move (.tmp 1), none⟩,
 ⟨some 10, .call (F 158) [.tmp 8, .tmp 9], none⟩,
 ⟨some 11, .un .not (.tmp 10), none⟩])
 (.cond (.tmp 11)
 (.seq (.ops [⟨some 12, .move (.tmp 0), none⟩,
 ⟨some 6, .move (.tmp 12), none⟩,
 ⟨some 7, .move (.const (.int .i64 7)), none⟩])
 (.ret))
 (.skip)))
 (.seq (.seq (.ops [⟨some 13, .move (.tmp 0), none⟩,
 ⟨some 14, .move (.tmp 1), none⟩,
 ⟨some 15, .idxSl 6 (.tmp 13) (.tmp 14), none⟩,
 ⟨some 16, .fieldAddr 1 (.tmp 15), none⟩,
 ⟨some 17, .load1 (.tmp 16), none⟩,
 ⟨some 18, .bin .neq (.tmp 17) (.const (.int .i64 1)), none⟩,
 ⟨some 19, .move (.tmp 18), none⟩,
 ⟨some 20, .move (.tmp 0), some (19, false)⟩,
 ⟨some 21, .move (.tmp 1), some (19, false)⟩,
 ⟨some 22, .idxSl 6 (.tmp 20) (.tmp 21), some (19, false)⟩,
 ⟨some 23, .fieldAddr 2 (.tmp 22), some (19, false)⟩,
 ⟨some 24, .load1 (.tmp 23), some (19, false)⟩,
 ⟨some 25, .move (.tmp 2), some (19, false)⟩,
 ⟨some 26, .bin .neq (.tmp 24) (.tmp 25), some (19, false)⟩,
 ⟨some 27, .pick (.tmp 19) (.const (.bool true)) (.tmp 26), none⟩])
 (.cond (.tmp 27)
 (.seq (.ops [⟨some 28, .move (.tmp 0), none⟩,
 ⟨some 6, .move (.tmp 28), none⟩,
 ⟨some 7, .move (.const (.int .i64 16)), none⟩])
 (.ret))
 (.skip)))
 (.seq (.ops [⟨some 29, .move (.tmp 0), none⟩,
 ⟨some 30, .move (.tmp 1), none⟩,
 ⟨some 31, .call (F 159) [.tmp 29, .tmp 30, .const (.int .i64 2)], none⟩,
 ⟨some 6, .move (.tmp 31), none⟩,
 ⟨some 7, .move (.const (.int .i64 0)), none⟩])
 (.ret))))⟩
/-- hurdle/hurdleref24.Free -/
def c_hurdleref24_Free (F : Nat → FuncId) (Ty : Nat → TypeId) : IFunc := ⟨21, [.tmp 4, .tmp 5],
 .seq (.ops [⟨some 4, .move (.const (.slice none 0 0)), none⟩,
 ⟨some 5, .move (.const (.int .i64 0)), none⟩])
 (.seq (.seq (.ops [⟨some 6, .move (.tmp 0), none⟩,
 ⟨some 7, .move (.tmp 1), none⟩,
 ⟨some 8, .call (F 158) [.tmp 6, .tmp 7], none⟩,
 ⟨some 9, .un .not (.tmp 8), none⟩])
 (.cond (.tmp 9)
 (.seq (.ops [⟨some 10, .move (.tmp 0), none⟩,
 ⟨some 4, .move (.tmp 10), none⟩,
 ⟨some 5, .move (.const (.int .i64 7)), none⟩])
 (.ret))
 (.skip)))
 (.seq (.seq (.ops [⟨some 11, .move (.tmp 0), none⟩,
 ⟨some 12, .move (.tmp 1), none⟩,
 ⟨some 13, .idxSl 6 (.tmp 11) (.tmp 12), none⟩,
 ⟨some 14, .fieldAddr 1 (.tmp 13), none⟩,
 ⟨some 15, .load1 (.tmp 14), none⟩,
 ⟨some 16, .bin .eql (.tmp 15) (.const (.int .i64 3)), none⟩])
 (.cond (.tmp 16)
 (.seq (.ops [⟨some 17, .move (.tmp 0), none⟩,
 ⟨some 4, .move (.tmp 17), none⟩,
 ⟨some 5, .move (.const (.int .i64 16)), none⟩])
 (.ret))
 (.skip)))
 (.seq (.ops [⟨some 18, .move (.tmp 0), none⟩,
 ⟨some 19, .move (.tmp 1), none⟩,
 ⟨some 20, .call (F 159) [.tmp 18, .tmp 19, .const (.int .i64 3)], none⟩,
 ⟨some 4, .move (.tmp 20), none⟩,
 ⟨some 5, .move (.const (.int .i64 0)), none⟩])
 (.ret))))⟩
/-- hurdle/hurdleref24.Drop -/
def c_hurdleref24_Drop (F : Nat → FuncId) (Ty : Nat → TypeId) : IFunc := ⟨38, [.tmp 4, .tmp 5],
 .seq (.ops [⟨some 4, .move (.const (.slice none 0 0)), none⟩,
 ⟨some 5, .move (.const (.slice none 0 0)), none⟩])
 (.seq (.ops [⟨some 6, .move (.const (.slice none 0 0)), none⟩])
 (.seq (.seq (.ops [⟨some 7, .move (.const (.int .i64 0)), none⟩])
 (.block 0 (.loop (.seq (.seq (.ops [⟨some 8, .move (.tmp 7), none⟩,
 ⟨some 9, .move (.tmp 0), none⟩,
 ⟨some 10, .lenSl (.tmp 9), none⟩,
 ⟨some 11, .bin .lss (.tmp 8) (.tmp 10), none⟩])
 (.cond (.tmp 11)
 (.skip)
 (.exit 0)))
 (.seq (.block 1 (.seq (.ops [⟨some 14, .move (.tmp 0), none⟩,
 ⟨some 15, .move (.tmp 7), none⟩,
 ⟨some 16, .idxSl 6 (.tmp 14) (.tmp 15), none⟩,
 ⟨some 17, .fieldAddr 2 (.tmp 16), none⟩,
 ⟨some 18, .load1 (.tmp 17), none⟩,
 ⟨some 19, .move (.tmp 1), none⟩,
 ⟨some 20, .bin .eql (.tmp 18) (.tmp 19), none⟩,
 ⟨some 21, .move (.tmp 20), none⟩,
 ⟨some 22, .move (.tmp 0), some (21, true)⟩,
 ⟨some 23, .move (.tmp 7), some (21, true)⟩,
 ⟨some 24, .idxSl 6 (.tmp 22) (.tmp 23), some (21, true)⟩,
 ⟨some 25, .fieldAddr 1 (.tmp 24), some (21, true)⟩,
 ⟨some 26, .load1 (.tmp 25), some (21, true)⟩,
 ⟨some 27, .bin .eql (.tmp 26) (.const (.int .i64 1)), some (21, true)⟩,
 ⟨some 28, .pick (.tmp 21) (.tmp 27) (.const (.bool false)), none⟩])
 (.cond (.tmp 28)
 (.seq (.ops [⟨some 29, .move (.tmp 0), none⟩,
 ⟨some 30, .move (.tmp 7), none⟩,
 ⟨some 31, .call (F 159) [.tmp 29, .tmp 30, .const (.int .i64 3)], none⟩,
 ⟨some 0, .move (.tmp 31), none⟩])
 (.ops [⟨some 32, .move (.tmp 6), none⟩,
 ⟨some 33, .move (.tmp 7), none⟩,
 ⟨some 34, .buildSlice 1 [.int .i64 0] [((0, 1), .tmp 33)], none⟩,
 ⟨some 35, .append 1 8 (.tmp 32) (.tmp 34), none⟩,
 ⟨some 6, .move (.tmp 35), none⟩]))
 (.skip))))
 (.ops [⟨some 12, .move (.tmp 7), none⟩,
 ⟨some 13, .bin .add (.tmp 12) (.const (.int .i64 1)), none⟩,
 ⟨some 7, .move (.tmp 13), none⟩]))))))
 (.seq (.ops [⟨some 36, .move (.tmp 0), none⟩,
 ⟨some 37, .move (.tmp 6), none⟩,
 ⟨some 4, .move (.tmp 36), none⟩,
 ⟨some 5, .move (.tmp 37), none⟩])
 (.ret))))⟩
/-- hurdle/hurdleref24.Move -/
def c_hurdleref24_Move (F : Nat → FuncId) (Ty : Nat → TypeId) : IFunc := ⟨98, [.tmp 8, .tmp 9],
 .seq (.ops [⟨some 8, .move (.const (.slice none 0 0)), none⟩,
 ⟨some 9, .move (.const (.int .i64 0)), none⟩])
 (.seq (.seq (.ops [⟨some 13, .move (.tmp 3), none⟩,
 ⟨some 14, .bin .lss (.tmp 13) (.const (.int .i64 0)), none⟩,
 ⟨some 15, .move (.tmp 14), none⟩,
 ⟨some 16, .move (.tmp 3), some (15, false)⟩,
 ⟨some 17, .bin .gtr (.tmp 16) (.const (.int .i64 63)), some (15, false)⟩,
 ⟨some 18, .pick (.tmp 15) (.const (.bool true)) (.tmp 17), none⟩,
 ⟨some 19, .move (.tmp 18), none⟩,
 ⟨some 20, .move (.tmp 0), some (19, false)⟩,
 ⟨some 21, .move (.tmp 1), some (19, false)⟩,
 ⟨some 22, .call (F 158) [.tmp 20, .tmp 21], some (19, false)⟩,
 ⟨some 23, .move (.tmp 22), some (19, false)⟩,
 ⟨some 24, .move (.tmp 2), some (23, true)⟩,
 ⟨some 25, .bin .lss (.tmp 24) (.const (.int .i64 0)), some (23, true)⟩,
 ⟨some 26, .move (.tmp 25), some (23, true)⟩,
 ⟨some 27, .move (.tmp 2), some (26, false)⟩,
 ⟨some 28, .move (.tmp 0), some (26, false)⟩,
 ⟨some 29, .move (.tmp 1), some (26, false)⟩,
 ⟨some 30, .idxSl 6 (.tmp 28) (.tmp 29), some (26, false)⟩,
 ⟨some 31, .fieldAddr 5 (.tmp 30), some (26, false)⟩,
 ⟨some 32, .load1 (.tmp 31), some (26, false)⟩,
 ⟨some 33, .lenSl (.tmp 32), some (26, false)⟩,
 ⟨some 34, .bin .geq (.tmp 27) (.tmp 33), some (26, false)⟩,
 ⟨some 35, .pick (.tmp 26) (.const (.bool true)) (.tmp 34), some (23, true)⟩,
 ⟨some 36, .pick (.tmp 23) (.tmp 35) (.const (.bool false)), some (19, false)⟩,
 ⟨some 37, .pick (.tmp 19) (.const (.bool true)) (.tmp 36), none⟩,
 ⟨some 38, .move (.tmp 37), none⟩,
 ⟨some 39, .move (.tmp 0), some (38, false)⟩,
 ⟨some 40, .move (.tmp 1), some (38, false)⟩,
 ⟨some 41, .call (F 158) [.tmp 39, .tmp 40], some (38, false)⟩,
 ⟨some 42, .un .not (.tmp 41), some (38, false)⟩,
 ⟨some 43, .move (.tmp 42), some (38, false)⟩,
 ⟨some 44, .move (.tmp 2), some (43, true)⟩,
 ⟨some 45, .bin .lss (.tmp 44) (.const (.int .i64 0)), some (43, true)⟩,
 ⟨some 46, .move (.tmp 45), some (43, true)⟩,
 ⟨some 47, .move (.tmp 2), some (46, false)⟩,
 ⟨some 48, .bin .geq (.tmp 47) (.const (.int .i64 8)), some (46, false)⟩,
 ⟨some 49, .pick (.tmp 46) (.const (.bool true)) (.tmp 48), some (43, true)⟩,
 ⟨some 50, .pick (.tmp 43) (.tmp 49) (.const (.bool false)), some (38, false)⟩,
 ⟨some 51, .pick (.tmp 38) (.const (.bool true)) (.tmp 50), none⟩])
 (.cond (.tmp 51)
 (.seq (.ops [⟨some 52, .move (.tmp 0), none⟩,
 ⟨some 8, .move (.tmp 52), none⟩,
 ⟨some 9, .move (.const (.int .i64 1)), none⟩])
 (.ret))
 (.skip)))
 (.seq (.seq (.ops [⟨some 53, .move (.tmp 0), none⟩,
 ⟨some 54, .move (.tmp 1), none⟩,
 ⟨some 55, .call (F 158) [.tmp 53, .tmp 54], none⟩,
 ⟨some 56, .un .not (.tmp 55), none⟩])
 (.cond (.tmp 56)
 (.seq (.ops [⟨some 57, .move (.tmp 0), none⟩,
 ⟨some 8, .move (.tmp 57), none⟩,
 ⟨some 9, .move (.const (.int .i64 7)), none⟩])
 (.ret))
 (.skip)))
 (.seq (.seq (.ops [⟨some 58, .move (.tmp 0), none⟩,
 ⟨some 59, .move (.tmp 1), none⟩,
 ⟨some 60, .idxSl 6 (.tmp 58) (.tmp 59), none⟩,
 ⟨some 61, .fieldAddr 5 (.tmp 60), none⟩,
 ⟨some 62, .load1 (.tmp 61), none⟩,
 ⟨some 63, .move (.tmp 3), none⟩,
 ⟨some 64, .call (F 117) [.tmp 62, .tmp 63], none⟩,
 ⟨some 10, .move (.tmp 64), none⟩])
 (.seq (.ops [⟨some 65, .move (.tmp 10), none⟩,
 ⟨some 66, .bin .geq (.tmp 65) (.const (.int .i64 0)), none⟩,
 ⟨some 67, .move (.tmp 66), none⟩,
 ⟨some 68, .move (.tmp 10), some (67, true)⟩,
 ⟨some 69, .move (.tmp 2), some (67, true)⟩,
 ⟨some 70, .bin .neq (.tmp 68) (.tmp 69), some (67, true)⟩,
 ⟨some 71, .pick (.tmp 67) (.tmp 70) (.const (.bool false)), none⟩])
 (.cond (.tmp 71)
 (.seq (.ops [⟨some 72, .move (.tmp 0), none⟩,
 ⟨some 8, .move (.tmp 72), none⟩,
 ⟨some 9, .move (.const (.int .i64 6)), none⟩])
 (.ret))
 (.skip))))
 (.seq (.seq (.ops [⟨some 73, .move (.tmp 0), none⟩,
 ⟨some 74, .move (.tmp 1), none⟩,
 ⟨some 75, .idxSl 6 (.tmp 73) (.tmp 74), none⟩,
 ⟨some 76, .fieldAddr 1 (.tmp 75), none⟩,
 ⟨some 77, .load1 (.tmp 76), none⟩,
 ⟨some 78, .bin .eql (.tmp 77) (.const (.int .i64 3)), none⟩])
 (.cond (.tmp 78)
 (.seq (.ops [⟨some 79, .move (.tmp 0), none⟩,
 ⟨some 8, .move (.tmp 79), none⟩,
 ⟨some 9, .move (.const (.int .i64 16)), none⟩])
 (.ret))
 (.skip)))
 (.seq (.ops [⟨some 80, .move (.tmp 0), none⟩,
 ⟨some 81, .append 6 64 (.const (.slice none 0 0)) (.tmp 80), none⟩,
 ⟨some 11, .move (.tmp 81), none⟩])
 (.seq (.ops [⟨some 82, .move (.tmp 0), none⟩,
 ⟨some 83, .move (.tmp 1), none⟩,
 ⟨some 84, .idxSl 6 (.tmp 82) (.tmp 83), none⟩,
 ⟨some 85, .fieldAddr 5 (.tmp 84), none⟩,
 ⟨some 86, .load1 (.tmp 85), none⟩,
 ⟨some 87, .append 1 8 (.const (.slice none 0 0)) (.tmp 86), none⟩,
 ⟨some 12, .move (.tmp 87), none⟩])
 (.seq (.ops [⟨some 88, .move (.tmp 12), none⟩,
 ⟨some 89, .move (.tmp 2), none⟩,
 ⟨some 90, .move (.tmp 3), none⟩,
 ⟨some 91, .idxSl 1 (.tmp 88) (.tmp 89), none⟩,
 ⟨none, .store 1 (.tmp 91) (.tmp 90), none⟩])
 (.seq (.ops [⟨some 92, .move (.tmp 11), none⟩,
 ⟨some 93, .move (.tmp 1), none⟩,
 ⟨some 94, .move (.tmp 12), none⟩,
 ⟨some 95, .idxSl 6 (.tmp 92) (.tmp 93), none⟩,
 ⟨some 96, .fieldAddr 5 (.tmp 95), none⟩,
 ⟨none, .store 1 (.tmp 96) (.tmp 94), none⟩])
 (.seq (.ops [⟨some 97, .move (.tmp 11), none⟩,
 ⟨some 8, .move (.tmp 97), none⟩,
 ⟨some 9, .move (.const (.int .i64 0)), none⟩])
 (.ret))))))))))⟩
/-- hurdle/hurdleref24.On -/
def c_hurdleref24_On (F : Nat → FuncId) (Ty : Nat → TypeId) : IFunc := ⟨34, [.tmp 4],
 .seq (.ops [⟨some 4, .move (.const (.slice none 0 0)), none⟩])
 (.seq (.ops [⟨some 5, .move (.const (.slice none 0 0)), none⟩])
 (.seq (.seq (.ops [⟨some 6, .move (.const (.int .i64 0)), none⟩])
 (.block 0 (.loop (.seq (.seq (.ops [⟨some 7, .move (.tmp 6), none⟩,
 ⟨some 8, .move (.tmp 0), none⟩,
 ⟨some 9, .lenSl (.tmp 8), none⟩,
 ⟨some 10, .bin .lss (.tmp 7) (.tmp 9), none⟩])
 (.cond (.tmp 10)
 (.skip)
 (.exit 0)))
 (.seq (.block 1 (.seq (.ops [⟨some 13, .move (.tmp 0), none⟩,
 ⟨some 14, .move (.tmp 6), none⟩,
 ⟨some 15, .idxSl 6 (.tmp 13) (.tmp 14), none⟩,
 ⟨some 16, .fieldAddr 1 (.tmp 15), none⟩,
 ⟨some 17, .load1 (.tmp 16), none⟩,
 ⟨some 18, .bin .neq (.tmp 17) (.const (.int .i64 3)), none⟩,
 ⟨some 19, .move (.tmp 18), none⟩,
 ⟨some 20, .move (.tmp 0), some (19, true)⟩,
 ⟨some 21, .move (.tmp 6), some (19, true)⟩,
 ⟨some 22, .idxSl 6 (.tmp 20) (.tmp 21), some (19, true)⟩,
 ⟨some 23, .fieldAddr 5 (.tmp 22), some (19, true)⟩,
 ⟨some 24, .load1 (.tmp 23), some (19, true)⟩,
 ⟨some 25, .move (.tmp 1), some (19, true)⟩,
 ⟨some 26, .call (F 117) [.tmp 24, .tmp 25], some (19, true)⟩,
 ⟨some 27, .bin .geq (.tmp 26) (.const (.int .i64 0)), some (19, true)⟩,
 ⟨some 28, .pick (.tmp 19) (.tmp 27) (.const (.bool false)), none⟩])
 (.cond (.tmp 28)
 (.ops [⟨some 29, .move (.tmp 5), none⟩,
 ⟨some 30, .move (.tmp 6), none⟩,
 ⟨some 31, .buildSlice 1 [.int .i64 0] [((0, 1), .tmp 30)], none⟩,
 ⟨some 32, .append 1 8 (.tmp 29) (.tmp 31), none⟩,
 ⟨some 5, .move (.tmp 32), none⟩])
 (.skip))))
 (.ops [⟨some 11, .move (.tmp 6), none⟩,
 ⟨some 12, .bin .add (.tmp 11) (.const (.int .i64 1)), none⟩,
 ⟨some 6, .move (.tmp 12), none⟩]))))))
 (.seq (.ops [⟨some 33, .move (.tmp 5), none⟩,
 ⟨some 4, .move (.tmp 33), none⟩])
 (.ret))))⟩
/-- hurdle/hurdleref24.Text -/
def c_hurdleref24_Text (F : Nat → FuncId) (Ty : Nat → TypeId) : IFunc := ⟨43, [.tmp 2],
 .seq (.ops [⟨some 2, .move (.const (.string ⟨#[]⟩)), none⟩])
 (.seq (.ops [⟨some 6, .move (.tmp 0), none⟩,
 ⟨some 7, .lenSl (.tmp 6), none⟩,
 ⟨some 8, .call (F 62) [.tmp 7], none⟩,
 ⟨some 3, .move (.tmp 8), none⟩])
 (.seq (.seq (.ops [⟨some 4, .move (.const (.int .i64 0)), none⟩])
 (.block 0 (.loop (.seq (.seq (.ops [⟨some 9, .move (.tmp 4), none⟩,
 ⟨some 10, .move (.tmp 0), none⟩,
 ⟨some 11, .lenSl (.tmp 10), none⟩,
 ⟨some 12, .bin .lss (.tmp 9) (.tmp 11), none⟩])
 (.cond (.tmp 12)
 (.skip)
 (.exit 0)))
 (.seq (.block 1 (.seq (.ops [⟨some 15, .move (.tmp 0), none⟩,
 ⟨some 16, .move (.tmp 4), none⟩,
 ⟨some 17, .idxSl 6 (.tmp 15) (.tmp 16), none⟩,
 ⟨some 18, .loadN 6 (.tmp 17), none⟩,
 ⟨some 5, .alloc [.int .i64 0, .int .i64 0, .int .i64 0, .int .i64 0, .int .i64 0, .slice none 0 0], none⟩,
 ⟨none, .store 6 (.tmp 5) (.tmp 18), none⟩])
 (.draw [(⟨some 19, .move (.tmp 3), none⟩, []),
 (⟨some 20, .fieldAddr 1 (.tmp 5), none⟩, []),
 (⟨some 21, .load1 (.tmp 20), none⟩, []),
 (⟨some 22, .conv .u8 (.tmp 21), none⟩, []),
 (⟨some 23, .buildSlice 1 [.int .u8 0] [((0, 1), .tmp 22)], none⟩, []),
 (⟨some 24, .bytesStr (.tmp 23), none⟩, []),
 (⟨some 25, .fieldAddr 2 (.tmp 5), none⟩, []),
 (⟨some 26, .load1 (.tmp 25), none⟩, []),
 (⟨some 29, .fieldAddr 3 (.tmp 5), none⟩, []),
 (⟨some 30, .load1 (.tmp 29), none⟩, []),
 (⟨some 33, .fieldAddr 4 (.tmp 5), none⟩, []),
 (⟨some 34, .load1 (.tmp 33), none⟩, []),
 (⟨some 37, .fieldAddr 5 (.tmp 5), none⟩, []),
 (⟨some 38, .load1 (.tmp 37), none⟩, []),
 (⟨some 27, .call (F 62) [.tmp 26], none⟩, [⟨some 21, .load1 (.tmp 20), none⟩, ⟨some 24, .bytesStr (.tmp 23), none⟩, ⟨some 30, .load1 (.tmp 29), none⟩, ⟨some 34, .load1 (.tmp 33), none⟩, ⟨some 38, .load1 (.tmp 37), none⟩]),
 (⟨some 28, .bin .add (.tmp 24) (.tmp 27), none⟩, []),
 (⟨some 31, .call (F 62) [.tmp 30], none⟩, [⟨some 21, .load1 (.tmp 20), none⟩, ⟨some 24, .bytesStr (.tmp 23), none⟩, ⟨some 34, .load1 (.tmp 33), none⟩, ⟨some 38, .load1 (.tmp 37), none⟩]),
 (⟨some 32, .bin .add (.tmp 28) (.tmp 31), none⟩, []),
 (⟨some 35, .call (F 62) [.tmp 34], none⟩, [⟨some 21, .load1 (.tmp 20), none⟩, ⟨some 24, .bytesStr (.tmp 23), none⟩, ⟨some 38, .load1 (.tmp 37), none⟩]),
 (⟨some 36, .bin .add (.tmp 32) (.tmp 35), none⟩, []),
 (⟨some 39, .call (F 60) [.tmp 38], none⟩, [⟨some 21, .load1 (.tmp 20), none⟩, ⟨some 24, .bytesStr (.tmp 23), none⟩]),
 (⟨some 40, .bin .add (.tmp 36) (.tmp 39), none⟩, []),
 (⟨some 41, .bin .add (.tmp 19) (.tmp 40), none⟩, []),
 (⟨some 3, .move (.tmp 41), none⟩, [])])))
 (.ops [⟨some 13, .move (.tmp 4), none⟩,
 ⟨some 14, .bin .add (.tmp 13) (.const (.int .i64 1)), none⟩,
 ⟨some 4, .move (.tmp 14), none⟩]))))))
 (.seq (.ops [⟨some 42, .move (.tmp 3), none⟩,
 ⟨some 2, .move (.tmp 42), none⟩])
 (.ret))))⟩
/-- hurdle/hurdleref24.Read -/
def c_hurdleref24_Read (F : Nat → FuncId) (Ty : Nat → TypeId) : IFunc := ⟨100, [.tmp 2, .tmp 3],
 .seq (.ops [⟨some 2, .move (.const (.slice none 0 0)), none⟩,
 ⟨some 3, .move (.const (.int .i64 0)), none⟩])
 (.seq (.ops [⟨some 16, .move (.tmp 0), none⟩,
 ⟨some 17, .build [.string ⟨#[]⟩, .bool false] [((0, 1), .tmp 16)], none⟩,
 ⟨some 18, .call (F 67) [.tmp 17], none⟩,
 ⟨some 15, .move (.tmp 18), none⟩,
 ⟨some 19, .extract (.tmp 15) 0, none⟩,
 ⟨some 20, .extract (.tmp 15) 1, none⟩,
 ⟨some 4, .alloc [.string ⟨#[]⟩, .bool false], none⟩,
 ⟨none, .store 2 (.tmp 4) (.tmp 19), none⟩,
 ⟨some 5, .move (.tmp 20), none⟩])
 (.seq (.seq (.ops [⟨some 21, .fieldAddr 1 (.tmp 4), none⟩,
 ⟨some 22, .load1 (.tmp 21), none⟩,
 ⟨some 23, .move (.tmp 22), none⟩,
 ⟨some 24, .move (.tmp 5), some (23, false)⟩,
 ⟨some 25, .bin .lss (.tmp 24) (.const (.int .i64 0)), some (23, false)⟩,
 ⟨some 26, .pick (.tmp 23) (.const (.bool true)) (.tmp 25), none⟩,
 ⟨some 27, .move (.tmp 26), none⟩,
 ⟨some 28, .move (.tmp 5), some (27, false)⟩,
 ⟨some 29, .bin .gtr (.tmp 28) (.const (.int .i64 4096)), some (27, false)⟩,
 ⟨some 30, .pick (.tmp 27) (.const (.bool true)) (.tmp 29), none⟩])
 (.cond (.tmp 30)
 (.seq (.ops [⟨some 2, .move (.const (.slice none 0 0)), none⟩,
 ⟨some 3, .move (.const (.int .i64 3)), none⟩])
 (.ret))
 (.skip)))
 (.seq (.ops [⟨some 6, .move (.const (.slice none 0 0)), none⟩])
 (.seq (.seq (.ops [⟨some 7, .move (.const (.int .i64 0)), none⟩])
 (.block 0 (.loop (.seq (.seq (.ops [⟨some 31, .move (.tmp 7), none⟩,
 ⟨some 32, .move (.tmp 5), none⟩,
 ⟨some 33, .bin .lss (.tmp 31) (.tmp 32), none⟩])
 (.cond (.tmp 33)
 (.skip)
 (.exit 0)))
 (.seq (.block 1 (.seq (.ops [⟨some 37, .loadN 2 (.tmp 4), none⟩,
 ⟨some 38, .call (F 63) [.tmp 37], none⟩,
 ⟨some 36, .move (.tmp 38), none⟩,
 ⟨some 39, .extract (.tmp 36) 0, none⟩,
 ⟨some 40, .extract (.tmp 36) 1, none⟩,
 ⟨some 8, .alloc [.string ⟨#[]⟩, .bool false], none⟩,
 ⟨none, .store 2 (.tmp 8) (.tmp 39), none⟩,
 ⟨some 9, .move (.tmp 40), none⟩])
 (.seq (.ops [⟨some 42, .loadN 2 (.tmp 8), none⟩,
 ⟨some 43, .call (F 67) [.tmp 42], none⟩,
 ⟨some 41, .move (.tmp 43), none⟩,
 ⟨some 44, .extract (.tmp 41) 0, none⟩,
 ⟨some 45, .extract (.tmp 41) 1, none⟩,
 ⟨none, .store 2 (.tmp 8) (.tmp 44), none⟩,
 ⟨some 10, .move (.tmp 45), none⟩])
 (.seq (.ops [⟨some 47, .loadN 2 (.tmp 8), none⟩,
 ⟨some 48, .call (F 67) [.tmp 47], none⟩,
 ⟨some 46, .move (.tmp 48), none⟩,
 ⟨some 49, .extract (.tmp 46) 0, none⟩,
 ⟨some 50, .extract (.tmp 46) 1, none⟩,
 ⟨none, .store 2 (.tmp 8) (.tmp 49), none⟩,
 ⟨some 11, .move (.tmp 50), none⟩])
 (.seq (.ops [⟨some 52, .loadN 2 (.tmp 8), none⟩,
 ⟨some 53, .call (F 67) [.tmp 52], none⟩,
 ⟨some 51, .move (.tmp 53), none⟩,
 ⟨some 54, .extract (.tmp 51) 0, none⟩,
 ⟨some 55, .extract (.tmp 51) 1, none⟩,
 ⟨none, .store 2 (.tmp 8) (.tmp 54), none⟩,
 ⟨some 12, .move (.tmp 55), none⟩])
 (.seq (.ops [⟨some 57, .loadN 2 (.tmp 8), none⟩,
 ⟨some 58, .call (F 65) [.tmp 57], none⟩,
 ⟨some 56, .move (.tmp 58), none⟩,
 ⟨some 59, .extract (.tmp 56) 0, none⟩,
 ⟨some 60, .extract (.tmp 56) 1, none⟩,
 ⟨none, .store 2 (.tmp 8) (.tmp 59), none⟩,
 ⟨some 13, .move (.tmp 60), none⟩])
 (.seq (.ops [⟨some 61, .move (.tmp 7), none⟩,
 ⟨some 62, .move (.tmp 9), none⟩,
 ⟨some 63, .move (.tmp 10), none⟩,
 ⟨some 64, .move (.tmp 11), none⟩,
 ⟨some 65, .move (.tmp 12), none⟩,
 ⟨some 66, .move (.tmp 13), none⟩,
 ⟨some 67, .build [.int .i64 0, .int .i64 0, .int .i64 0, .int .i64 0, .int .i64 0, .slice none 0 0] [((0, 1), .tmp 61), ((1, 1), .tmp 62), ((2, 1), .tmp 63), ((3, 1), .tmp 64), ((4, 1), .tmp 65), ((5, 1), .tmp 66)], none⟩,
 ⟨some 14, .alloc [.int .i64 0, .int .i64 0, .int .i64 0, .int .i64 0, .int .i64 0, .slice none 0 0], none⟩,
 ⟨none, .store 6 (.tmp 14) (.tmp 67), none⟩])
 (.seq (.seq (.ops [⟨some 68, .fieldAddr 1 (.tmp 8), none⟩,
 ⟨some 69, .load1 (.tmp 68), none⟩,
 ⟨some 70, .move (.tmp 69), none⟩,
 ⟨some 71, .loadN 6 (.tmp 14), some (70, false)⟩,
 ⟨some 72, .call (F 155) [.tmp 71], some (70, false)⟩,
 ⟨some 73, .un .not (.tmp 72), some (70, false)⟩,
 ⟨some 74, .pick (.tmp 70) (.const (.bool true)) (.tmp 73), none⟩,
 ⟨some 75, .move (.tmp 74), none⟩,
 ⟨some 76, .move (.tmp 9), some (75, false)⟩,
 ⟨some 77, .bin .lss (.tmp 76) (.const (.int .i64 1)), some (75, false)⟩,
 ⟨some 78, .pick (.tmp 75) (.const (.bool true)) (.tmp 77), none⟩,
 ⟨some 79, .move (.tmp 78), none⟩,
 ⟨some 80, .move (.tmp 9), some (79, false)⟩,
 ⟨some 81, .bin .gtr (.tmp 80) (.const (.int .i64 3)), some (79, false)⟩,
 ⟨some 82, .pick (.tmp 79) (.const (.bool true)) (.tmp 81), none⟩])
 (.cond (.tmp 82)
 (.seq (.ops [⟨some 2, .move (.const (.slice none 0 0)), none⟩,
 ⟨some 3, .move (.const (.int .i64 3)), none⟩])
 (.ret))
 (.skip)))
 (.seq (.ops [⟨some 83, .loadN 2 (.tmp 8), none⟩,
 ⟨none, .store 2 (.tmp 4) (.tmp 83), none⟩])
 (.ops [⟨some 84, .move (.tmp 6), none⟩,
 ⟨some 85, .loadN 6 (.tmp 14), none⟩,
 ⟨some 86, .buildSlice 1 [.int .i64 0, .int .i64 0, .int .i64 0, .int .i64 0, .int .i64 0, .slice none 0 0] [((0, 6), .tmp 85)], none⟩,
 ⟨some 87, .append 6 64 (.tmp 84) (.tmp 86), none⟩,
 ⟨some 6, .move (.tmp 87), none⟩]))))))))))
 (.ops [⟨some 34, .move (.tmp 7), none⟩,
 ⟨some 35, .bin .add (.tmp 34) (.const (.int .i64 1)), none⟩,
 ⟨some 7, .move (.tmp 35), none⟩]))))))
 (.seq (.seq (.ops [⟨some 88, .loadN 2 (.tmp 4), none⟩,
 ⟨some 89, .call (F 56) [.tmp 88], none⟩,
 ⟨some 90, .bin .neq (.tmp 89) (.const (.int .i64 0)), none⟩,
 ⟨some 91, .move (.tmp 90), none⟩,
 ⟨some 92, .move (.tmp 5), some (91, false)⟩,
 ⟨some 93, .move (.tmp 6), some (91, false)⟩,
 ⟨some 94, .call (F 156) [.tmp 93, .const (.int .i64 3)], some (91, false)⟩,
 ⟨some 95, .lenSl (.tmp 94), some (91, false)⟩,
 ⟨some 96, .bin .sub (.tmp 92) (.tmp 95), some (91, false)⟩,
 ⟨some 97, .bin .gtr (.tmp 96) (.const (.int .i64 256)), some (91, false)⟩,
 ⟨some 98, .pick (.tmp 91) (.const (.bool true)) (.tmp 97), none⟩])
 (.cond (.tmp 98)
 (.seq (.ops [⟨some 2, .move (.const (.slice none 0 0)), none⟩,
 ⟨some 3, .move (.const (.int .i64 3)), none⟩])
 (.ret))
 (.skip)))
 (.seq (.ops [⟨some 99, .move (.tmp 6), none⟩,
 ⟨some 2, .move (.tmp 99), none⟩,
 ⟨some 3, .move (.const (.int .i64 0)), none⟩])
 (.ret)))))))⟩
/-- hurdle/hurdleref24.Same -/
def c_hurdleref24_Same (F : Nat → FuncId) (Ty : Nat → TypeId) : IFunc := ⟨45, [.tmp 4],
 .seq (.ops [⟨some 2, .box (.tmp 0), none⟩,
 ⟨some 3, .box (.tmp 1), none⟩,
 ⟨some 4, .move (.const (.bool false)), none⟩])
 (.seq (.ops [⟨some 5, .fieldAddr 0 (.tmp 2), none⟩,
 ⟨some 6, .load1 (.tmp 5), none⟩,
 ⟨some 7, .fieldAddr 0 (.tmp 3), none⟩,
 ⟨some 8, .load1 (.tmp 7), none⟩,
 ⟨some 9, .bin .eql (.tmp 6) (.tmp 8), none⟩,
 ⟨some 10, .move (.tmp 9), none⟩,
 ⟨some 11, .fieldAddr 1 (.tmp 2), some (10, true)⟩,
 ⟨some 12, .load1 (.tmp 11), some (10, true)⟩,
 ⟨some 13, .fieldAddr 1 (.tmp 3), some (10, true)⟩,
 ⟨some 14, .load1 (.tmp 13), some (10, true)⟩,
 ⟨some 15, .bin .eql (.tmp 12) (.tmp 14), some (10, true)⟩,
 ⟨some 16, .pick (.tmp 10) (.tmp 15) (.const (.bool false)), none⟩,
 ⟨some 17, .move (.tmp 16), none⟩,
 ⟨some 18, .fieldAddr 2 (.tmp 2), some (17, true)⟩,
 ⟨some 19, .load1 (.tmp 18), some (17, true)⟩,
 ⟨some 20, .fieldAddr 2 (.tmp 3), some (17, true)⟩,
 ⟨some 21, .load1 (.tmp 20), some (17, true)⟩,
 ⟨some 22, .bin .eql (.tmp 19) (.tmp 21), some (17, true)⟩,
 ⟨some 23, .pick (.tmp 17) (.tmp 22) (.const (.bool false)), none⟩,
 ⟨some 24, .move (.tmp 23), none⟩,
 ⟨some 25, .fieldAddr 3 (.tmp 2), some (24, true)⟩,
 ⟨some 26, .load1 (.tmp 25), some (24, true)⟩,
 ⟨some 27, .fieldAddr 3 (.tmp 3), some (24, true)⟩,
 ⟨some 28, .load1 (.tmp 27), some (24, true)⟩,
 ⟨some 29, .bin .eql (.tmp 26) (.tmp 28), some (24, true)⟩,
 ⟨some 30, .pick (.tmp 24) (.tmp 29) (.const (.bool false)), none⟩,
 ⟨some 31, .move (.tmp 30), none⟩,
 ⟨some 32, .fieldAddr 4 (.tmp 2), some (31, true)⟩,
 ⟨some 33, .load1 (.tmp 32), some (31, true)⟩,
 ⟨some 34, .fieldAddr 4 (.tmp 3), some (31, true)⟩,
 ⟨some 35, .load1 (.tmp 34), some (31, true)⟩,
 ⟨some 36, .bin .eql (.tmp 33) (.tmp 35), some (31, true)⟩,
 ⟨some 37, .pick (.tmp 31) (.tmp 36) (.const (.bool false)), none⟩,
 ⟨some 38, .move (.tmp 37), none⟩,
 ⟨some 39, .fieldAddr 5 (.tmp 2), some (38, true)⟩,
 ⟨some 40, .load1 (.tmp 39), some (38, true)⟩,
 ⟨some 41, .fieldAddr 5 (.tmp 3), some (38, true)⟩,
 ⟨some 42, .load1 (.tmp 41), some (38, true)⟩,
 ⟨some 43, .call (F 69) [.tmp 40, .tmp 42], some (38, true)⟩,
 ⟨some 44, .pick (.tmp 38) (.tmp 43) (.const (.bool false)), none⟩,
 ⟨some 4, .move (.tmp 44), none⟩])
 (.ret))⟩
/-- hurdle/hurdleref24.Get -/
def c_hurdleref24_Get (F : Nat → FuncId) (Ty : Nat → TypeId) : IFunc := ⟨15, [.cellN 4 6, .tmp 5],
 .seq (.ops [⟨some 4, .alloc [.int .i64 0, .int .i64 0, .int .i64 0, .int .i64 0, .int .i64 0, .slice none 0 0], none⟩,
 ⟨some 5, .move (.const (.bool false)), none⟩])
 (.seq (.seq (.ops [⟨some 6, .move (.tmp 0), none⟩,
 ⟨some 7, .move (.tmp 1), none⟩,
 ⟨some 8, .call (F 158) [.tmp 6, .tmp 7], none⟩,
 ⟨some 9, .un .not (.tmp 8), none⟩])
 (.cond (.tmp 9)
 (.seq (.ops [⟨some 10, .build [.int .i64 0, .int .i64 0, .int .i64 0, .int .i64 0, .int .i64 0, .slice none 0 0] [], none⟩,
 ⟨none, .store 6 (.tmp 4) (.tmp 10), none⟩,
 ⟨some 5, .move (.const (.bool false)), none⟩])
 (.ret))
 (.skip)))
 (.seq (.ops [⟨some 11, .move (.tmp 0), none⟩,
 ⟨some 12, .move (.tmp 1), none⟩,
 ⟨some 13, .idxSl 6 (.tmp 11) (.tmp 12), none⟩,
 ⟨some 14, .loadN 6 (.tmp 13), none⟩,
 ⟨none, .store 6 (.tmp 4) (.tmp 14), none⟩,
 ⟨some 5, .move (.const (.bool true)), none⟩])
 (.ret)))⟩
/-- A context has these functions. -/
structure HasRef24 (c : Ctx) : Prop where
 hurdleref24_may : c.IP (c.F 155) = some (c_hurdleref24_may c.F c.Ty)
 hurdleref24_List : c.IP (c.F 156) = some (c_hurdleref24_List c.F c.Ty)
 hurdleref24_Begin : c.IP (c.F 157) = some (c_hurdleref24_Begin c.F c.Ty)
 hurdleref24_known : c.IP (c.F 158) = some (c_hurdleref24_known c.F c.Ty)
 hurdleref24_state : c.IP (c.F 159) = some (c_hurdleref24_state c.F c.Ty)
 hurdleref24_Commit : c.IP (c.F 160) = some (c_hurdleref24_Commit c.F c.Ty)
 hurdleref24_Free : c.IP (c.F 161) = some (c_hurdleref24_Free c.F c.Ty)
 hurdleref24_Drop : c.IP (c.F 162) = some (c_hurdleref24_Drop c.F c.Ty)
 hurdleref24_Move : c.IP (c.F 163) = some (c_hurdleref24_Move c.F c.Ty)
 hurdleref24_On : c.IP (c.F 164) = some (c_hurdleref24_On c.F c.Ty)
 hurdleref24_Text : c.IP (c.F 165) = some (c_hurdleref24_Text c.F c.Ty)
 hurdleref24_Read : c.IP (c.F 166) = some (c_hurdleref24_Read c.F c.Ty)
 hurdleref24_Same : c.IP (c.F 167) = some (c_hurdleref24_Same c.F c.Ty)
 hurdleref24_Get : c.IP (c.F 168) = some (c_hurdleref24_Get c.F c.Ty)

end Go.Proofs.YtmdkkhnenciknaaI
