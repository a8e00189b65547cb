/- PRINTED by gen.py (this session's own): the intermediate form of some functions, and a context's having them. -/
import Derived.Test.YtfegliplajdgmaaPartCodecD
namespace Go.Proofs.YtfegliplajdgmaaI
set_option linter.unusedSimpArgs false
set_option linter.unusedVariables false
open Go

/-- hurdle/hurdleref03.End -/
abbrev n_hurdleref03_End : Nat := 56
/-- hurdle/hurdleref03.Text -/
abbrev n_hurdleref03_Text : Nat := 59
/-- hurdle/hurdleref03.Int -/
abbrev n_hurdleref03_Int : Nat := 62
/-- hurdle/hurdleref03.TakeText -/
abbrev n_hurdleref03_TakeText : Nat := 64
/-- hurdle/hurdleref03.TakeInt -/
abbrev n_hurdleref03_TakeInt : Nat := 67
/-- hurdle/hurdleref03.bad -/
abbrev n_hurdleref03_bad : Nat := 68
/-- hurdle/hurdleref03.End -/
def c_hurdleref03_End (F : Nat → FuncId) (Ty : Nat → TypeId) : IFunc := ⟨10, [.tmp 2],
 .seq (.ops [⟨some 1, .box (.tmp 0), none⟩,
 ⟨some 2, .move (.const (.int .i64 0)), none⟩])
 (.seq (.seq (.ops [⟨some 3, .fieldAddr 1 (.tmp 1), none⟩,
 ⟨some 4, .load1 (.tmp 3), none⟩,
 ⟨some 5, .move (.tmp 4), none⟩,
 ⟨some 6, .fieldAddr 0 (.tmp 1), some (5, false)⟩,
 ⟨some 7, .load1 (.tmp 6), some (5, false)⟩,
 ⟨some 8, .bin .neq (.tmp 7) (.const (.string ⟨#[]⟩)), some (5, false)⟩,
 ⟨some 9, .pick (.tmp 5) (.const (.bool true)) (.tmp 8), none⟩])
 (.cond (.tmp 9)
 (.seq (.ops [⟨some 2, .move (.const (.int .i64 3)), none⟩])
 (.ret))
 (.skip)))
 (.seq (.ops [⟨some 2, .move (.const (.int .i64 0)), none⟩])
 (.ret)))⟩
/-- hurdle/hurdleref03.Text -/
def c_hurdleref03_Text (F : Nat → FuncId) (Ty : Nat → TypeId) : IFunc := ⟨8, [.tmp 2],
 .seq (.ops [⟨some 2, .move (.const (.string ⟨#[]⟩)), none⟩])
 (.seq (.ops [⟨some 3, .move (.tmp 0), none⟩,
 ⟨some 4, .strLen (.tmp 3), none⟩,
 ⟨some 5, .call (F 62) [.tmp 4], none⟩,
 ⟨some 6, .move (.tmp 0), none⟩,
 ⟨some 7, .bin .add (.tmp 5) (.tmp 6), none⟩,
 ⟨some 2, .move (.tmp 7), none⟩])
 (.ret))⟩
/-- hurdle/hurdleref03.Int -/
def c_hurdleref03_Int (F : Nat → FuncId) (Ty : Nat → TypeId) : IFunc := ⟨30, [.tmp 2],
 .seq (.ops [⟨some 2, .move (.const (.string ⟨#[]⟩)), none⟩])
 (.seq (.ops [⟨some 5, .move (.tmp 0), none⟩,
 ⟨some 6, .conv .u64 (.tmp 5), none⟩,
 ⟨some 7, .bin .shl (.tmp 6) (.const (.int .u64 1)), none⟩,
 ⟨some 3, .move (.tmp 7), none⟩])
 (.seq (.seq (.ops [⟨some 8, .move (.tmp 0), none⟩,
 ⟨some 9, .bin .lss (.tmp 8) (.const (.int .i64 0)), none⟩])
 (.cond (.tmp 9)
 (.ops [⟨some 10, .move (.tmp 3), none⟩,
 ⟨some 11, .bin .xor (.tmp 10) (.const (.int .u64 18446744073709551615)), none⟩,
 ⟨some 3, .move (.tmp 11), none⟩])
 (.skip)))
 (.seq (.ops [⟨some 4, .move (.const (.slice none 0 0)), none⟩])
 (.seq (.block 0 (.loop (.seq (.seq (.ops [⟨some 12, .move (.tmp 3), none⟩,
 ⟨some 13, .bin .geq (.tmp 12) (.const (.int .u64 128)), none⟩])
 (.cond (.tmp 13)
 (.skip)
 (.exit 0)))
 (.block 1 (.seq (.ops [⟨some 14, .move (.tmp 4), none⟩,
 ⟨some 15, .move (.tmp 3), none⟩,
 ⟨some 16, .bin .and (.tmp 15) (.const (.int .u64 127)), none⟩,
 ⟨some 17, .conv .u8 (.tmp 16), none⟩,
 ⟨some 18, .bin .or (.tmp 17) (.const (.int .u8 128)), none⟩,
 ⟨some 19, .buildSlice 1 [.int .u8 0] [((0, 1), .tmp 18)], none⟩,
 ⟨some 20, .append 1 1 (.tmp 14) (.tmp 19), none⟩,
 ⟨some 4, .move (.tmp 20), none⟩])
 (.ops [⟨some 21, .move (.tmp 3), none⟩,
 ⟨some 22, .bin .shr (.tmp 21) (.const (.int .u64 7)), none⟩,
 ⟨some 3, .move (.tmp 22), none⟩]))))))
 (.seq (.ops [⟨some 23, .move (.tmp 4), none⟩,
 ⟨some 24, .move (.tmp 3), none⟩,
 ⟨some 25, .conv .u8 (.tmp 24), none⟩,
 ⟨some 26, .buildSlice 1 [.int .u8 0] [((0, 1), .tmp 25)], none⟩,
 ⟨some 27, .append 1 1 (.tmp 23) (.tmp 26), none⟩,
 ⟨some 4, .move (.tmp 27), none⟩])
 (.seq (.ops [⟨some 28, .move (.tmp 4), none⟩,
 ⟨some 29, .bytesStr (.tmp 28), none⟩,
 ⟨some 2, .move (.tmp 29), none⟩])
 (.ret)))))))⟩
/-- hurdle/hurdleref03.TakeText -/
def c_hurdleref03_TakeText (F : Nat → FuncId) (Ty : Nat → TypeId) : IFunc := ⟨35, [.cellN 2 2, .tmp 3],
 .seq (.ops [⟨some 1, .box (.tmp 0), none⟩,
 ⟨some 2, .alloc [.string ⟨#[]⟩, .bool false], none⟩,
 ⟨some 3, .move (.const (.string ⟨#[]⟩)), none⟩])
 (.seq (.ops [⟨some 7, .loadN 2 (.tmp 1), none⟩,
 ⟨some 8, .call (F 67) [.tmp 7], none⟩,
 ⟨some 6, .move (.tmp 8), none⟩,
 ⟨some 9, .extract (.tmp 6) 0, none⟩,
 ⟨some 10, .extract (.tmp 6) 1, none⟩,
 ⟨some 4, .alloc [.string ⟨#[]⟩, .bool false], none⟩,
 ⟨none, .store 2 (.tmp 4) (.tmp 9), none⟩,
 ⟨some 5, .move (.tmp 10), none⟩])
 (.seq (.seq (.ops [⟨some 11, .fieldAddr 1 (.tmp 4), none⟩,
 ⟨some 12, .load1 (.tmp 11), none⟩,
 ⟨some 13, .move (.tmp 12), none⟩,
 ⟨some 14, .move (.tmp 5), some (13, false)⟩,
 ⟨some 15, .bin .lss (.tmp 14) (.const (.int .i64 0)), some (13, false)⟩,
 ⟨some 16, .pick (.tmp 13) (.const (.bool true)) (.tmp 15), none⟩,
 ⟨some 17, .move (.tmp 16), none⟩,
 ⟨some 18, .move (.tmp 5), some (17, false)⟩,
 ⟨some 19, .fieldAddr 0 (.tmp 4), some (17, false)⟩,
 ⟨some 20, .load1 (.tmp 19), some (17, false)⟩,
 ⟨some 21, .strLen (.tmp 20), some (17, false)⟩,
 ⟨some 22, .bin .gtr (.tmp 18) (.tmp 21), some (17, false)⟩,
 ⟨some 23, .pick (.tmp 17) (.const (.bool true)) (.tmp 22), none⟩])
 (.cond (.tmp 23)
 (.seq (.ops [⟨some 24, .loadN 2 (.tmp 1), none⟩,
 ⟨some 25, .call (F 68) [.tmp 24], none⟩,
 ⟨none, .store 2 (.tmp 2) (.tmp 25), none⟩,
 ⟨some 3, .move (.const (.string ⟨#[]⟩)), none⟩])
 (.ret))
 (.skip)))
 (.seq (.draw [(⟨some 26, .fieldAddr 0 (.tmp 4), none⟩, []),
 (⟨some 27, .load1 (.tmp 26), none⟩, []),
 (⟨some 28, .move (.tmp 5), none⟩, []),
 (⟨some 29, .strSl (.tmp 27) (some (.tmp 28)) none, none⟩, []),
 (⟨some 30, .build [.string ⟨#[]⟩, .bool false] [((0, 1), .tmp 29)], none⟩, []),
 (⟨some 31, .fieldAddr 0 (.tmp 4), none⟩, []),
 (⟨some 32, .load1 (.tmp 31), none⟩, []),
 (⟨some 33, .move (.tmp 5), none⟩, []),
 (⟨some 34, .strSl (.tmp 32) none (some (.tmp 33)), none⟩, []),
 (⟨none, .store 2 (.tmp 2) (.tmp 30), none⟩, [⟨some 32, .load1 (.tmp 31), none⟩]),
 (⟨some 3, .move (.tmp 34), none⟩, [])])
 (.ret))))⟩
/-- hurdle/hurdleref03.TakeInt -/
def c_hurdleref03_TakeInt (F : Nat → FuncId) (Ty : Nat → TypeId) : IFunc := ⟨68, [.cellN 2 2, .tmp 3],
 .seq (.ops [⟨some 1, .box (.tmp 0), none⟩,
 ⟨some 2, .alloc [.string ⟨#[]⟩, .bool false], none⟩,
 ⟨some 3, .move (.const (.int .i64 0)), none⟩])
 (.seq (.ops [⟨some 4, .move (.const (.int .u64 0)), none⟩])
 (.seq (.seq (.ops [⟨some 5, .move (.const (.int .i64 0)), none⟩])
 (.block 0 (.loop (.seq (.seq (.ops [⟨some 8, .move (.tmp 5), none⟩,
 ⟨some 9, .fieldAddr 0 (.tmp 1), none⟩,
 ⟨some 10, .load1 (.tmp 9), none⟩,
 ⟨some 11, .strLen (.tmp 10), none⟩,
 ⟨some 12, .bin .lss (.tmp 8) (.tmp 11), none⟩,
 ⟨some 13, .move (.tmp 12), none⟩,
 ⟨some 14, .move (.tmp 5), some (13, true)⟩,
 ⟨some 15, .bin .lss (.tmp 14) (.const (.int .i64 10)), some (13, true)⟩,
 ⟨some 16, .pick (.tmp 13) (.tmp 15) (.const (.bool false)), none⟩])
 (.cond (.tmp 16)
 (.skip)
 (.exit 0)))
 (.seq (.block 1 (.seq (.ops [⟨some 19, .fieldAddr 0 (.tmp 1), none⟩,
 ⟨some 20, .load1 (.tmp 19), none⟩,
 ⟨some 21, .move (.tmp 5), none⟩,
 ⟨some 22, .strIdx (.tmp 20) (.tmp 21), none⟩,
 ⟨some 23, .conv .u64 (.tmp 22), none⟩,
 ⟨some 6, .move (.tmp 23), none⟩])
 (.seq (.seq (.ops [⟨some 24, .move (.tmp 5), none⟩,
 ⟨some 25, .bin .eql (.tmp 24) (.const (.int .i64 9)), none⟩,
 ⟨some 26, .move (.tmp 25), none⟩,
 ⟨some 27, .move (.tmp 6), some (26, true)⟩,
 ⟨some 28, .bin .gtr (.tmp 27) (.const (.int .u64 1)), some (26, true)⟩,
 ⟨some 29, .pick (.tmp 26) (.tmp 28) (.const (.bool false)), none⟩,
 ⟨some 30, .move (.tmp 29), none⟩,
 ⟨some 31, .move (.tmp 5), some (30, false)⟩,
 ⟨some 32, .bin .gtr (.tmp 31) (.const (.int .i64 0)), some (30, false)⟩,
 ⟨some 33, .move (.tmp 32), some (30, false)⟩,
 ⟨some 34, .move (.tmp 6), some (33, true)⟩,
 ⟨some 35, .bin .eql (.tmp 34) (.const (.int .u64 0)), some (33, true)⟩,
 ⟨some 36, .pick (.tmp 33) (.tmp 35) (.const (.bool false)), some (30, false)⟩,
 ⟨some 37, .pick (.tmp 30) (.const (.bool true)) (.tmp 36), none⟩])
 (.cond (.tmp 37)
 (.seq (.ops [⟨some 38, .loadN 2 (.tmp 1), none⟩,
 ⟨some 39, .call (F 68) [.tmp 38], none⟩,
 ⟨none, .store 2 (.tmp 2) (.tmp 39), none⟩,
 ⟨some 3, .move (.const (.int .i64 0)), none⟩])
 (.ret))
 (.skip)))
 (.seq (.ops [⟨some 40, .move (.tmp 4), none⟩,
 ⟨some 41, .move (.tmp 6), none⟩,
 ⟨some 42, .bin .and (.tmp 41) (.const (.int .u64 127)), none⟩,
 ⟨some 43, .move (.tmp 5), none⟩,
 ⟨some 44, .bin .mul (.const (.int .i64 7)) (.tmp 43), none⟩,
 ⟨some 45, .conv .u64 (.tmp 44), none⟩,
 ⟨some 46, .bin .shl (.tmp 42) (.tmp 45), none⟩,
 ⟨some 47, .bin .or (.tmp 40) (.tmp 46), none⟩,
 ⟨some 4, .move (.tmp 47), none⟩])
 (.seq (.ops [⟨some 48, .move (.tmp 6), none⟩,
 ⟨some 49, .bin .lss (.tmp 48) (.const (.int .u64 128)), none⟩])
 (.cond (.tmp 49)
 (.seq (.ops [⟨some 50, .move (.tmp 4), none⟩,
 ⟨some 51, .bin .shr (.tmp 50) (.const (.int .u64 1)), none⟩,
 ⟨some 52, .conv .i64 (.tmp 51), none⟩,
 ⟨some 7, .move (.tmp 52), none⟩])
 (.seq (.seq (.ops [⟨some 53, .move (.tmp 4), none⟩,
 ⟨some 54, .bin .and (.tmp 53) (.const (.int .u64 1)), none⟩,
 ⟨some 55, .bin .eql (.tmp 54) (.const (.int .u64 1)), none⟩])
 (.cond (.tmp 55)
 (.ops [⟨some 56, .move (.tmp 7), none⟩,
 ⟨some 57, .un .neg (.tmp 56), none⟩,
 ⟨some 58, .bin .sub (.tmp 57) (.const (.int .i64 1)), none⟩,
 ⟨some 7, .move (.tmp 58), none⟩])
 (.skip)))
 (.seq (.ops [⟨some 59, .fieldAddr 0 (.tmp 1), none⟩,
 ⟨some 60, .load1 (.tmp 59), none⟩,
 ⟨some 61, .move (.tmp 5), none⟩,
 ⟨some 62, .bin .add (.tmp 61) (.const (.int .i64 1)), none⟩,
 ⟨some 63, .strSl (.tmp 60) (some (.tmp 62)) none, none⟩,
 ⟨some 64, .build [.string ⟨#[]⟩, .bool false] [((0, 1), .tmp 63)], none⟩,
 ⟨some 65, .move (.tmp 7), none⟩,
 ⟨none, .store 2 (.tmp 2) (.tmp 64), none⟩,
 ⟨some 3, .move (.tmp 65), none⟩])
 (.ret))))
 (.skip)))))))
 (.ops [⟨some 17, .move (.tmp 5), none⟩,
 ⟨some 18, .bin .add (.tmp 17) (.const (.int .i64 1)), none⟩,
 ⟨some 5, .move (.tmp 18), none⟩]))))))
 (.seq (.ops [⟨some 66, .loadN 2 (.tmp 1), none⟩,
 ⟨some 67, .call (F 68) [.tmp 66], none⟩,
 ⟨none, .store 2 (.tmp 2) (.tmp 67), none⟩,
 ⟨some 3, .move (.const (.int .i64 0)), none⟩])
 (.ret))))⟩
/-- hurdle/hurdleref03.bad -/
def c_hurdleref03_bad (F : Nat → FuncId) (Ty : Nat → TypeId) : IFunc := ⟨4, [.cellN 2 2],
 .seq (.ops [⟨some 1, .box (.tmp 0), none⟩,
 ⟨some 2, .alloc [.string ⟨#[]⟩, .bool false], none⟩])
 (.seq (.ops [⟨some 3, .build [.string ⟨#[]⟩, .bool false] [((1, 1), .const (.bool true))], none⟩,
 ⟨none, .store 2 (.tmp 2) (.tmp 3), none⟩])
 (.ret))⟩
/-- A context has these functions. -/
structure HasRef03 (c : Ctx) : Prop where
 hurdleref03_End : c.IP (c.F 56) = some (c_hurdleref03_End c.F c.Ty)
 hurdleref03_Text : c.IP (c.F 59) = some (c_hurdleref03_Text c.F c.Ty)
 hurdleref03_Int : c.IP (c.F 62) = some (c_hurdleref03_Int c.F c.Ty)
 hurdleref03_TakeText : c.IP (c.F 64) = some (c_hurdleref03_TakeText c.F c.Ty)
 hurdleref03_TakeInt : c.IP (c.F 67) = some (c_hurdleref03_TakeInt c.F c.Ty)
 hurdleref03_bad : c.IP (c.F 68) = some (c_hurdleref03_bad c.F c.Ty)

end Go.Proofs.YtfegliplajdgmaaI
