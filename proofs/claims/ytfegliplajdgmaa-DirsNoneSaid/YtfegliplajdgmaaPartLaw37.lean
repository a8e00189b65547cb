/- PRINTED by gen.py (this session's own): the intermediate form of some functions, and a context's having them. -/
import Derived.Test.YtfegliplajdgmaaIdealZ
namespace Go.Proofs.YtfegliplajdgmaaI
set_option linter.unusedSimpArgs false
set_option linter.unusedVariables false
open Go

/-- hurdle/hurdlelaw37.DirsPlays -/
abbrev n_hurdlelaw37_DirsPlays : Nat := 231
/-- hurdle/hurdlelaw37.DirsReads -/
abbrev n_hurdlelaw37_DirsReads : Nat := 232
/-- hurdle/hurdlelaw37.DirsBack -/
abbrev n_hurdlelaw37_DirsBack : Nat := 233
/-- hurdle/hurdlelaw37.DirsNone -/
abbrev n_hurdlelaw37_DirsNone : Nat := 234
/-- hurdle/hurdlelaw37.few -/
abbrev n_hurdlelaw37_few : Nat := 235
/-- hurdle/hurdlelaw37.awake -/
abbrev n_hurdlelaw37_awake : Nat := 236
/-- hurdle/hurdlelaw37.DirsPlays -/
def c_hurdlelaw37_DirsPlays (F : Nat → FuncId) (Ty : Nat → TypeId) : IFunc := ⟨159, [.tmp 2],
 .seq (.ops [⟨some 2, .move (.const (.bool false)), none⟩])
 (.seq (.seq (.ops [⟨some 17, .move (.tmp 0), none⟩,
 ⟨some 18, .call (F 235) [.tmp 17], none⟩,
 ⟨some 19, .un .not (.tmp 18), none⟩])
 (.cond (.tmp 19)
 (.seq (.ops [⟨some 20, .call (F 236) [], none⟩,
 ⟨some 2, .move (.tmp 20), none⟩])
 (.ret))
 (.skip)))
 (.seq (.ops [⟨some 21, .call (F 204) [], none⟩,
 ⟨some 3, .move (.tmp 21), none⟩])
 (.seq (.ops [⟨some 4, .move (.const (.slice none 0 0)), none⟩])
 (.seq (.seq (.ops [⟨some 5, .move (.const (.int .i64 0)), none⟩])
 (.block 0 (.loop (.seq (.seq (.ops [⟨some 22, .move (.tmp 5), none⟩,
 ⟨some 23, .move (.tmp 0), none⟩,
 ⟨some 24, .lenSl (.tmp 23), none⟩,
 ⟨some 25, .bin .lss (.tmp 22) (.tmp 24), none⟩])
 (.cond (.tmp 25)
 (.skip)
 (.exit 0)))
 (.seq (.block 1 (.seq (.seq (.ops [⟨some 28, .move (.tmp 0), none⟩,
 ⟨some 29, .move (.tmp 5), none⟩,
 ⟨some 30, .idxSl 3 (.tmp 28) (.tmp 29), none⟩,
 ⟨some 31, .fieldAddr 0 (.tmp 30), none⟩,
 ⟨some 32, .load1 (.tmp 31), none⟩,
 ⟨some 33, .bin .eql (.tmp 32) (.const (.int .i64 0)), none⟩])
 (.cond (.tmp 33)
 (.seq (.draw [(⟨some 35, .move (.tmp 4), none⟩, []),
 (⟨some 36, .move (.tmp 0), none⟩, []),
 (⟨some 37, .move (.tmp 5), none⟩, []),
 (⟨some 38, .idxSl 3 (.tmp 36) (.tmp 37), none⟩, []),
 (⟨some 39, .fieldAddr 2 (.tmp 38), none⟩, []),
 (⟨some 40, .load1 (.tmp 39), none⟩, []),
 (⟨some 41, .move (.tmp 0), none⟩, []),
 (⟨some 42, .move (.tmp 5), none⟩, []),
 (⟨some 43, .idxSl 3 (.tmp 41) (.tmp 42), none⟩, []),
 (⟨some 44, .fieldAddr 1 (.tmp 43), none⟩, []),
 (⟨some 45, .load1 (.tmp 44), none⟩, []),
 (⟨some 46, .call (F 225) [.tmp 35, .tmp 40, .tmp 45], none⟩, []),
 (⟨some 34, .move (.tmp 46), none⟩, []),
 (⟨some 47, .extract (.tmp 34) 0, none⟩, []),
 (⟨some 48, .extract (.tmp 34) 1, none⟩, []),
 (⟨some 6, .move (.tmp 47), none⟩, []),
 (⟨some 7, .move (.tmp 48), none⟩, [])])
 (.seq (.ops [⟨some 49, .move (.tmp 6), none⟩,
 ⟨some 4, .move (.tmp 49), none⟩])
 (.seq (.draw [(⟨some 50, .move (.tmp 3), none⟩, []),
 (⟨some 51, .move (.tmp 0), none⟩, []),
 (⟨some 52, .move (.tmp 5), none⟩, []),
 (⟨some 53, .idxSl 3 (.tmp 51) (.tmp 52), none⟩, []),
 (⟨some 54, .fieldAddr 2 (.tmp 53), none⟩, []),
 (⟨some 55, .load1 (.tmp 54), none⟩, []),
 (⟨some 56, .move (.tmp 0), none⟩, []),
 (⟨some 57, .move (.tmp 5), none⟩, []),
 (⟨some 58, .idxSl 3 (.tmp 56) (.tmp 57), none⟩, []),
 (⟨some 59, .fieldAddr 1 (.tmp 58), none⟩, []),
 (⟨some 60, .load1 (.tmp 59), none⟩, []),
 (⟨some 62, .move (.tmp 7), none⟩, []),
 (⟨some 61, .call (F 211) [.tmp 50, .tmp 55, .tmp 60], none⟩, []),
 (⟨some 63, .bin .neq (.tmp 61) (.tmp 62), none⟩, [])])
 (.cond (.tmp 63)
 (.seq (.ops [⟨some 2, .move (.const (.bool false)), none⟩])
 (.ret))
 (.skip)))))
 (.seq (.ops [⟨some 65, .move (.tmp 4), none⟩,
 ⟨some 66, .move (.tmp 0), none⟩,
 ⟨some 67, .move (.tmp 5), none⟩,
 ⟨some 68, .idxSl 3 (.tmp 66) (.tmp 67), none⟩,
 ⟨some 69, .fieldAddr 2 (.tmp 68), none⟩,
 ⟨some 70, .load1 (.tmp 69), none⟩,
 ⟨some 71, .call (F 227) [.tmp 65, .tmp 70], none⟩,
 ⟨some 64, .move (.tmp 71), none⟩,
 ⟨some 72, .extract (.tmp 64) 0, none⟩,
 ⟨some 73, .extract (.tmp 64) 1, none⟩,
 ⟨some 74, .extract (.tmp 64) 2, none⟩,
 ⟨some 8, .move (.tmp 72), none⟩,
 ⟨some 9, .move (.tmp 73), none⟩,
 ⟨some 10, .move (.tmp 74), none⟩])
 (.seq (.ops [⟨some 75, .move (.tmp 8), none⟩,
 ⟨some 4, .move (.tmp 75), none⟩])
 (.seq (.ops [⟨some 77, .move (.tmp 3), none⟩,
 ⟨some 78, .move (.tmp 0), none⟩,
 ⟨some 79, .move (.tmp 5), none⟩,
 ⟨some 80, .idxSl 3 (.tmp 78) (.tmp 79), none⟩,
 ⟨some 81, .fieldAddr 2 (.tmp 80), none⟩,
 ⟨some 82, .load1 (.tmp 81), none⟩,
 ⟨some 83, .call (F 212) [.tmp 77, .tmp 82], none⟩,
 ⟨some 76, .move (.tmp 83), none⟩,
 ⟨some 84, .extract (.tmp 76) 0, none⟩,
 ⟨some 85, .extract (.tmp 76) 1, none⟩,
 ⟨some 11, .move (.tmp 84), none⟩,
 ⟨some 12, .move (.tmp 85), none⟩])
 (.seq (.ops [⟨some 86, .move (.tmp 11), none⟩,
 ⟨some 87, .move (.tmp 9), none⟩,
 ⟨some 88, .bin .neq (.tmp 86) (.tmp 87), none⟩,
 ⟨some 89, .move (.tmp 88), none⟩,
 ⟨some 90, .move (.tmp 12), some (89, false)⟩,
 ⟨some 91, .move (.tmp 10), some (89, false)⟩,
 ⟨some 92, .bin .neq (.tmp 90) (.tmp 91), some (89, false)⟩,
 ⟨some 93, .pick (.tmp 89) (.const (.bool true)) (.tmp 92), none⟩])
 (.cond (.tmp 93)
 (.seq (.ops [⟨some 2, .move (.const (.bool false)), none⟩])
 (.ret))
 (.skip))))))))
 (.seq (.ops [⟨some 95, .move (.tmp 3), none⟩,
 ⟨some 96, .move (.tmp 0), none⟩,
 ⟨some 97, .move (.tmp 5), none⟩,
 ⟨some 98, .idxSl 3 (.tmp 96) (.tmp 97), none⟩,
 ⟨some 99, .fieldAddr 2 (.tmp 98), none⟩,
 ⟨some 100, .load1 (.tmp 99), none⟩,
 ⟨some 101, .call (F 213) [.tmp 95, .tmp 100], none⟩,
 ⟨some 94, .move (.tmp 101), none⟩,
 ⟨some 102, .extract (.tmp 94) 0, none⟩,
 ⟨some 103, .extract (.tmp 94) 1, none⟩,
 ⟨some 13, .move (.tmp 102), none⟩,
 ⟨some 14, .move (.tmp 103), none⟩])
 (.seq (.ops [⟨some 105, .move (.tmp 4), none⟩,
 ⟨some 106, .move (.tmp 0), none⟩,
 ⟨some 107, .move (.tmp 5), none⟩,
 ⟨some 108, .idxSl 3 (.tmp 106) (.tmp 107), none⟩,
 ⟨some 109, .fieldAddr 2 (.tmp 108), none⟩,
 ⟨some 110, .load1 (.tmp 109), none⟩,
 ⟨some 111, .call (F 226) [.tmp 105, .tmp 110], none⟩,
 ⟨some 104, .move (.tmp 111), none⟩,
 ⟨some 112, .extract (.tmp 104) 0, none⟩,
 ⟨some 113, .extract (.tmp 104) 1, none⟩,
 ⟨some 15, .move (.tmp 112), none⟩,
 ⟨some 16, .move (.tmp 113), none⟩])
 (.seq (.draw [(⟨some 114, .move (.tmp 13), none⟩, []),
 (⟨some 115, .move (.tmp 15), none⟩, []),
 (⟨some 116, .bin .neq (.tmp 114) (.tmp 115), none⟩, []),
 (⟨some 117, .move (.tmp 116), none⟩, []),
 (⟨some 118, .move (.tmp 14), some (117, false)⟩, []),
 (⟨some 119, .move (.tmp 16), some (117, false)⟩, []),
 (⟨some 120, .bin .neq (.tmp 118) (.tmp 119), some (117, false)⟩, []),
 (⟨some 121, .pick (.tmp 117) (.const (.bool true)) (.tmp 120), none⟩, []),
 (⟨some 122, .move (.tmp 121), none⟩, []),
 (⟨some 123, .move (.tmp 3), some (122, false)⟩, []),
 (⟨some 125, .move (.tmp 4), some (122, false)⟩, []),
 (⟨some 126, .lenSl (.tmp 125), some (122, false)⟩, []),
 (⟨some 124, .call (F 215) [.tmp 123], some (122, false)⟩, []),
 (⟨some 127, .bin .neq (.tmp 124) (.tmp 126), some (122, false)⟩, []),
 (⟨some 128, .pick (.tmp 122) (.const (.bool true)) (.tmp 127), none⟩, []),
 (⟨some 129, .move (.tmp 128), none⟩, []),
 (⟨some 130, .move (.tmp 0), some (129, false)⟩, []),
 (⟨some 131, .move (.tmp 5), some (129, false)⟩, []),
 (⟨some 132, .idxSl 3 (.tmp 130) (.tmp 131), some (129, false)⟩, []),
 (⟨some 133, .fieldAddr 2 (.tmp 132), some (129, false)⟩, []),
 (⟨some 134, .load1 (.tmp 133), some (129, false)⟩, []),
 (⟨some 136, .move (.tmp 0), some (129, false)⟩, []),
 (⟨some 137, .move (.tmp 5), some (129, false)⟩, []),
 (⟨some 138, .idxSl 3 (.tmp 136) (.tmp 137), some (129, false)⟩, []),
 (⟨some 139, .fieldAddr 2 (.tmp 138), some (129, false)⟩, []),
 (⟨some 140, .load1 (.tmp 139), some (129, false)⟩, []),
 (⟨some 135, .call (F 208) [.tmp 134], some (129, false)⟩, [⟨some 140, .load1 (.tmp 139), some (129, false)⟩]),
 (⟨some 141, .call (F 223) [.tmp 140], some (129, false)⟩, []),
 (⟨some 142, .eqv true [] (.tmp 135) (.tmp 141), some (129, false)⟩, []),
 (⟨some 143, .pick (.tmp 129) (.const (.bool true)) (.tmp 142), none⟩, [])])
 (.cond (.tmp 143)
 (.seq (.ops [⟨some 2, .move (.const (.bool false)), none⟩])
 (.ret))
 (.skip)))))))
 (.ops [⟨some 26, .move (.tmp 5), none⟩,
 ⟨some 27, .bin .add (.tmp 26) (.const (.int .i64 1)), none⟩,
 ⟨some 5, .move (.tmp 27), none⟩]))))))
 (.seq (.ops [⟨some 144, .move (.tmp 3), none⟩,
 ⟨some 145, .call (F 214) [.tmp 144], none⟩,
 ⟨some 146, .move (.tmp 4), none⟩,
 ⟨some 147, .call (F 228) [.tmp 146], none⟩,
 ⟨some 148, .call (F 70) [.tmp 145, .tmp 147], none⟩,
 ⟨some 149, .move (.tmp 148), none⟩,
 ⟨some 150, .move (.tmp 3), some (149, true)⟩,
 ⟨some 151, .call (F 216) [.tmp 150], some (149, true)⟩,
 ⟨some 152, .move (.tmp 4), some (149, true)⟩,
 ⟨some 153, .call (F 229) [.tmp 152], some (149, true)⟩,
 ⟨some 154, .bin .eql (.tmp 151) (.tmp 153), some (149, true)⟩,
 ⟨some 155, .pick (.tmp 149) (.tmp 154) (.const (.bool false)), none⟩,
 ⟨some 156, .move (.tmp 155), none⟩,
 ⟨some 157, .call (F 236) [], some (156, true)⟩,
 ⟨some 158, .pick (.tmp 156) (.tmp 157) (.const (.bool false)), none⟩,
 ⟨some 2, .move (.tmp 158), none⟩])
 (.ret))))))⟩
/-- hurdle/hurdlelaw37.DirsReads -/
def c_hurdlelaw37_DirsReads (F : Nat → FuncId) (Ty : Nat → TypeId) : IFunc := ⟨49, [.tmp 2],
 .seq (.ops [⟨some 2, .move (.const (.bool false)), none⟩])
 (.seq (.seq (.ops [⟨some 7, .move (.tmp 0), none⟩,
 ⟨some 8, .strLen (.tmp 7), none⟩,
 ⟨some 9, .bin .gtr (.tmp 8) (.const (.int .i64 5000)), none⟩])
 (.cond (.tmp 9)
 (.seq (.ops [⟨some 10, .call (F 236) [], none⟩,
 ⟨some 2, .move (.tmp 10), none⟩])
 (.ret))
 (.skip)))
 (.seq (.ops [⟨some 12, .move (.tmp 0), none⟩,
 ⟨some 13, .call (F 217) [.tmp 12], none⟩,
 ⟨some 11, .move (.tmp 13), none⟩,
 ⟨some 14, .extract (.tmp 11) 0, none⟩,
 ⟨some 15, .extract (.tmp 11) 1, none⟩,
 ⟨some 3, .move (.tmp 14), none⟩,
 ⟨some 4, .move (.tmp 15), none⟩])
 (.seq (.ops [⟨some 17, .move (.tmp 0), none⟩,
 ⟨some 18, .call (F 230) [.tmp 17], none⟩,
 ⟨some 16, .move (.tmp 18), none⟩,
 ⟨some 19, .extract (.tmp 16) 0, none⟩,
 ⟨some 20, .extract (.tmp 16) 1, none⟩,
 ⟨some 5, .move (.tmp 19), none⟩,
 ⟨some 6, .move (.tmp 20), none⟩])
 (.seq (.seq (.ops [⟨some 21, .move (.tmp 4), none⟩,
 ⟨some 22, .move (.tmp 6), none⟩,
 ⟨some 23, .bin .neq (.tmp 21) (.tmp 22), none⟩,
 ⟨some 24, .move (.tmp 23), none⟩,
 ⟨some 25, .move (.tmp 3), some (24, false)⟩,
 ⟨some 26, .eqNil 0 false (.tmp 25), some (24, false)⟩,
 ⟨some 27, .move (.tmp 6), some (24, false)⟩,
 ⟨some 28, .bin .neq (.tmp 27) (.const (.int .i64 0)), some (24, false)⟩,
 ⟨some 29, .eqv true [] (.tmp 26) (.tmp 28), some (24, false)⟩,
 ⟨some 30, .pick (.tmp 24) (.const (.bool true)) (.tmp 29), none⟩])
 (.cond (.tmp 30)
 (.seq (.ops [⟨some 2, .move (.const (.bool false)), none⟩])
 (.ret))
 (.skip)))
 (.seq (.ops [⟨some 31, .move (.tmp 6), none⟩,
 ⟨some 32, .bin .neq (.tmp 31) (.const (.int .i64 0)), none⟩,
 ⟨some 33, .move (.tmp 32), none⟩,
 ⟨some 34, .move (.tmp 3), some (33, false)⟩,
 ⟨some 35, .call (F 216) [.tmp 34], some (33, false)⟩,
 ⟨some 36, .move (.tmp 0), some (33, false)⟩,
 ⟨some 37, .bin .eql (.tmp 35) (.tmp 36), some (33, false)⟩,
 ⟨some 38, .move (.tmp 37), some (33, false)⟩,
 ⟨some 39, .move (.tmp 3), some (38, true)⟩,
 ⟨some 40, .call (F 214) [.tmp 39], some (38, true)⟩,
 ⟨some 41, .move (.tmp 5), some (38, true)⟩,
 ⟨some 42, .call (F 228) [.tmp 41], some (38, true)⟩,
 ⟨some 43, .call (F 70) [.tmp 40, .tmp 42], some (38, true)⟩,
 ⟨some 44, .pick (.tmp 38) (.tmp 43) (.const (.bool false)), some (33, false)⟩,
 ⟨some 45, .pick (.tmp 33) (.const (.bool true)) (.tmp 44), none⟩,
 ⟨some 46, .move (.tmp 45), none⟩,
 ⟨some 47, .call (F 236) [], some (46, true)⟩,
 ⟨some 48, .pick (.tmp 46) (.tmp 47) (.const (.bool false)), none⟩,
 ⟨some 2, .move (.tmp 48), none⟩])
 (.ret))))))⟩
/-- hurdle/hurdlelaw37.DirsBack -/
def c_hurdlelaw37_DirsBack (F : Nat → FuncId) (Ty : Nat → TypeId) : IFunc := ⟨126, [.tmp 2],
 .seq (.ops [⟨some 2, .move (.const (.bool false)), none⟩])
 (.seq (.seq (.ops [⟨some 13, .move (.tmp 0), none⟩,
 ⟨some 14, .call (F 235) [.tmp 13], none⟩,
 ⟨some 15, .un .not (.tmp 14), none⟩])
 (.cond (.tmp 15)
 (.seq (.ops [⟨some 16, .call (F 236) [], none⟩,
 ⟨some 2, .move (.tmp 16), none⟩])
 (.ret))
 (.skip)))
 (.seq (.ops [⟨some 17, .call (F 204) [], none⟩,
 ⟨some 3, .move (.tmp 17), none⟩])
 (.seq (.seq (.ops [⟨some 4, .move (.const (.int .i64 0)), none⟩])
 (.block 0 (.loop (.seq (.seq (.ops [⟨some 18, .move (.tmp 4), none⟩,
 ⟨some 19, .move (.tmp 0), none⟩,
 ⟨some 20, .lenSl (.tmp 19), none⟩,
 ⟨some 21, .bin .lss (.tmp 18) (.tmp 20), none⟩])
 (.cond (.tmp 21)
 (.skip)
 (.exit 0)))
 (.seq (.block 1 (.seq (.ops [⟨some 24, .move (.tmp 0), none⟩,
 ⟨some 25, .move (.tmp 4), none⟩,
 ⟨some 26, .idxSl 3 (.tmp 24) (.tmp 25), none⟩,
 ⟨some 27, .fieldAddr 0 (.tmp 26), none⟩,
 ⟨some 28, .load1 (.tmp 27), none⟩,
 ⟨some 29, .bin .eql (.tmp 28) (.const (.int .i64 0)), none⟩])
 (.cond (.tmp 29)
 (.draw [(⟨some 30, .move (.tmp 3), none⟩, []),
 (⟨some 31, .move (.tmp 0), none⟩, []),
 (⟨some 32, .move (.tmp 4), none⟩, []),
 (⟨some 33, .idxSl 3 (.tmp 31) (.tmp 32), none⟩, []),
 (⟨some 34, .fieldAddr 2 (.tmp 33), none⟩, []),
 (⟨some 35, .load1 (.tmp 34), none⟩, []),
 (⟨some 36, .move (.tmp 0), none⟩, []),
 (⟨some 37, .move (.tmp 4), none⟩, []),
 (⟨some 38, .idxSl 3 (.tmp 36) (.tmp 37), none⟩, []),
 (⟨some 39, .fieldAddr 1 (.tmp 38), none⟩, []),
 (⟨some 40, .load1 (.tmp 39), none⟩, []),
 (⟨some 41, .call (F 211) [.tmp 30, .tmp 35, .tmp 40], none⟩, [])])
 (.ops [⟨some 42, .move (.tmp 3), none⟩,
 ⟨some 43, .move (.tmp 0), none⟩,
 ⟨some 44, .move (.tmp 4), none⟩,
 ⟨some 45, .idxSl 3 (.tmp 43) (.tmp 44), none⟩,
 ⟨some 46, .fieldAddr 2 (.tmp 45), none⟩,
 ⟨some 47, .load1 (.tmp 46), none⟩,
 ⟨some 48, .call (F 212) [.tmp 42, .tmp 47], none⟩]))))
 (.ops [⟨some 22, .move (.tmp 4), none⟩,
 ⟨some 23, .bin .add (.tmp 22) (.const (.int .i64 1)), none⟩,
 ⟨some 4, .move (.tmp 23), none⟩]))))))
 (.seq (.ops [⟨some 50, .move (.tmp 3), none⟩,
 ⟨some 51, .call (F 216) [.tmp 50], none⟩,
 ⟨some 52, .call (F 217) [.tmp 51], none⟩,
 ⟨some 49, .move (.tmp 52), none⟩,
 ⟨some 53, .extract (.tmp 49) 0, none⟩,
 ⟨some 54, .extract (.tmp 49) 1, none⟩,
 ⟨some 5, .move (.tmp 53), none⟩,
 ⟨some 6, .move (.tmp 54), none⟩])
 (.seq (.ops [⟨some 55, .move (.tmp 3), none⟩,
 ⟨some 56, .call (F 214) [.tmp 55], none⟩,
 ⟨some 7, .move (.tmp 56), none⟩])
 (.seq (.seq (.ops [⟨some 57, .move (.tmp 6), none⟩,
 ⟨some 58, .bin .neq (.tmp 57) (.const (.int .i64 0)), none⟩,
 ⟨some 59, .move (.tmp 58), none⟩,
 ⟨some 60, .move (.tmp 5), some (59, false)⟩,
 ⟨some 61, .call (F 214) [.tmp 60], some (59, false)⟩,
 ⟨some 62, .move (.tmp 7), some (59, false)⟩,
 ⟨some 63, .call (F 70) [.tmp 61, .tmp 62], some (59, false)⟩,
 ⟨some 64, .un .not (.tmp 63), some (59, false)⟩,
 ⟨some 65, .pick (.tmp 59) (.const (.bool true)) (.tmp 64), none⟩])
 (.cond (.tmp 65)
 (.seq (.ops [⟨some 2, .move (.const (.bool false)), none⟩])
 (.ret))
 (.skip)))
 (.seq (.seq (.ops [⟨some 8, .move (.const (.int .i64 0)), none⟩])
 (.block 2 (.loop (.seq (.seq (.ops [⟨some 66, .move (.tmp 8), none⟩,
 ⟨some 67, .move (.tmp 7), none⟩,
 ⟨some 68, .lenSl (.tmp 67), none⟩,
 ⟨some 69, .bin .lss (.tmp 66) (.tmp 68), none⟩])
 (.cond (.tmp 69)
 (.skip)
 (.exit 2)))
 (.seq (.block 3 (.seq (.ops [⟨some 73, .move (.tmp 3), none⟩,
 ⟨some 74, .move (.tmp 7), none⟩,
 ⟨some 75, .move (.tmp 8), none⟩,
 ⟨some 76, .idxSl 1 (.tmp 74) (.tmp 75), none⟩,
 ⟨some 77, .load1 (.tmp 76), none⟩,
 ⟨some 78, .call (F 213) [.tmp 73, .tmp 77], none⟩,
 ⟨some 72, .move (.tmp 78), none⟩,
 ⟨some 79, .extract (.tmp 72) 0, none⟩,
 ⟨some 80, .extract (.tmp 72) 1, none⟩,
 ⟨some 9, .move (.tmp 79), none⟩,
 ⟨some 10, .move (.tmp 80), none⟩])
 (.seq (.ops [⟨some 82, .move (.tmp 5), none⟩,
 ⟨some 83, .move (.tmp 7), none⟩,
 ⟨some 84, .move (.tmp 8), none⟩,
 ⟨some 85, .idxSl 1 (.tmp 83) (.tmp 84), none⟩,
 ⟨some 86, .load1 (.tmp 85), none⟩,
 ⟨some 87, .call (F 213) [.tmp 82, .tmp 86], none⟩,
 ⟨some 81, .move (.tmp 87), none⟩,
 ⟨some 88, .extract (.tmp 81) 0, none⟩,
 ⟨some 89, .extract (.tmp 81) 1, none⟩,
 ⟨some 11, .move (.tmp 88), none⟩,
 ⟨some 12, .move (.tmp 89), none⟩])
 (.seq (.draw [(⟨some 90, .move (.tmp 10), none⟩, []),
 (⟨some 91, .bin .neq (.tmp 90) (.const (.int .i64 0)), none⟩, []),
 (⟨some 92, .move (.tmp 91), none⟩, []),
 (⟨some 93, .move (.tmp 12), some (92, false)⟩, []),
 (⟨some 94, .bin .neq (.tmp 93) (.const (.int .i64 0)), some (92, false)⟩, []),
 (⟨some 95, .pick (.tmp 92) (.const (.bool true)) (.tmp 94), none⟩, []),
 (⟨some 96, .move (.tmp 95), none⟩, []),
 (⟨some 97, .move (.tmp 9), some (96, false)⟩, []),
 (⟨some 98, .move (.tmp 11), some (96, false)⟩, []),
 (⟨some 99, .bin .neq (.tmp 97) (.tmp 98), some (96, false)⟩, []),
 (⟨some 100, .pick (.tmp 96) (.const (.bool true)) (.tmp 99), none⟩, []),
 (⟨some 101, .move (.tmp 100), none⟩, []),
 (⟨some 102, .move (.tmp 7), some (101, false)⟩, []),
 (⟨some 103, .move (.tmp 8), some (101, false)⟩, []),
 (⟨some 104, .idxSl 1 (.tmp 102) (.tmp 103), some (101, false)⟩, []),
 (⟨some 105, .load1 (.tmp 104), some (101, false)⟩, []),
 (⟨some 106, .call (F 208) [.tmp 105], some (101, false)⟩, []),
 (⟨some 107, .un .not (.tmp 106), some (101, false)⟩, []),
 (⟨some 108, .pick (.tmp 101) (.const (.bool true)) (.tmp 107), none⟩, []),
 (⟨some 109, .move (.tmp 108), none⟩, []),
 (⟨some 110, .move (.tmp 8), some (109, false)⟩, []),
 (⟨some 111, .bin .gtr (.tmp 110) (.const (.int .i64 0)), some (109, false)⟩, []),
 (⟨some 112, .move (.tmp 111), some (109, false)⟩, []),
 (⟨some 113, .move (.tmp 7), some (112, true)⟩, []),
 (⟨some 114, .move (.tmp 8), some (112, true)⟩, []),
 (⟨some 115, .idxSl 1 (.tmp 113) (.tmp 114), some (112, true)⟩, []),
 (⟨some 116, .load1 (.tmp 115), some (112, true)⟩, []),
 (⟨some 117, .move (.tmp 7), some (112, true)⟩, []),
 (⟨some 118, .move (.tmp 8), some (112, true)⟩, []),
 (⟨some 119, .bin .sub (.tmp 118) (.const (.int .i64 1)), some (112, true)⟩, []),
 (⟨some 120, .idxSl 1 (.tmp 117) (.tmp 119), some (112, true)⟩, []),
 (⟨some 121, .load1 (.tmp 120), some (112, true)⟩, []),
 (⟨some 122, .bin .leq (.tmp 116) (.tmp 121), some (112, true)⟩, []),
 (⟨some 123, .pick (.tmp 112) (.tmp 122) (.const (.bool false)), some (109, false)⟩, []),
 (⟨some 124, .pick (.tmp 109) (.const (.bool true)) (.tmp 123), none⟩, [])])
 (.cond (.tmp 124)
 (.seq (.ops [⟨some 2, .move (.const (.bool false)), none⟩])
 (.ret))
 (.skip))))))
 (.ops [⟨some 70, .move (.tmp 8), none⟩,
 ⟨some 71, .bin .add (.tmp 70) (.const (.int .i64 1)), none⟩,
 ⟨some 8, .move (.tmp 71), none⟩]))))))
 (.seq (.ops [⟨some 125, .call (F 236) [], none⟩,
 ⟨some 2, .move (.tmp 125), none⟩])
 (.ret)))))))))⟩
/-- hurdle/hurdlelaw37.DirsNone -/
def c_hurdlelaw37_DirsNone (F : Nat → FuncId) (Ty : Nat → TypeId) : IFunc := ⟨64, [.tmp 2],
 .seq (.ops [⟨some 1, .box (.tmp 0), none⟩,
 ⟨some 2, .move (.const (.bool false)), none⟩])
 (.seq (.ops [⟨some 3, .move (.const (.pointer none)), none⟩])
 (.seq (.ops [⟨some 9, .move (.tmp 3), none⟩,
 ⟨some 10, .fieldAddr 2 (.tmp 1), none⟩,
 ⟨some 11, .load1 (.tmp 10), none⟩,
 ⟨some 12, .call (F 212) [.tmp 9, .tmp 11], none⟩,
 ⟨some 8, .move (.tmp 12), none⟩,
 ⟨some 13, .extract (.tmp 8) 0, none⟩,
 ⟨some 14, .extract (.tmp 8) 1, none⟩,
 ⟨some 4, .move (.tmp 13), none⟩,
 ⟨some 5, .move (.tmp 14), none⟩])
 (.seq (.ops [⟨some 16, .move (.tmp 3), none⟩,
 ⟨some 17, .fieldAddr 2 (.tmp 1), none⟩,
 ⟨some 18, .load1 (.tmp 17), none⟩,
 ⟨some 19, .call (F 213) [.tmp 16, .tmp 18], none⟩,
 ⟨some 15, .move (.tmp 19), none⟩,
 ⟨some 20, .extract (.tmp 15) 0, none⟩,
 ⟨some 21, .extract (.tmp 15) 1, none⟩,
 ⟨some 6, .move (.tmp 20), none⟩,
 ⟨some 7, .move (.tmp 21), none⟩])
 (.seq (.ops [⟨some 22, .move (.tmp 3), none⟩,
 ⟨some 23, .fieldAddr 2 (.tmp 1), none⟩,
 ⟨some 24, .load1 (.tmp 23), none⟩,
 ⟨some 25, .fieldAddr 1 (.tmp 1), none⟩,
 ⟨some 26, .load1 (.tmp 25), none⟩,
 ⟨some 27, .call (F 211) [.tmp 22, .tmp 24, .tmp 26], none⟩,
 ⟨some 28, .bin .eql (.tmp 27) (.const (.int .i64 1)), none⟩,
 ⟨some 29, .move (.tmp 28), none⟩,
 ⟨some 30, .move (.tmp 4), some (29, true)⟩,
 ⟨some 31, .bin .eql (.tmp 30) (.const (.int .i64 0)), some (29, true)⟩,
 ⟨some 32, .pick (.tmp 29) (.tmp 31) (.const (.bool false)), none⟩,
 ⟨some 33, .move (.tmp 32), none⟩,
 ⟨some 34, .move (.tmp 5), some (33, true)⟩,
 ⟨some 35, .bin .eql (.tmp 34) (.const (.int .i64 1)), some (33, true)⟩,
 ⟨some 36, .pick (.tmp 33) (.tmp 35) (.const (.bool false)), none⟩,
 ⟨some 37, .move (.tmp 36), none⟩,
 ⟨some 38, .move (.tmp 6), some (37, true)⟩,
 ⟨some 39, .bin .eql (.tmp 38) (.const (.int .i64 0)), some (37, true)⟩,
 ⟨some 40, .pick (.tmp 37) (.tmp 39) (.const (.bool false)), none⟩,
 ⟨some 41, .move (.tmp 40), none⟩,
 ⟨some 42, .move (.tmp 7), some (41, true)⟩,
 ⟨some 43, .bin .eql (.tmp 42) (.const (.int .i64 7)), some (41, true)⟩,
 ⟨some 44, .pick (.tmp 41) (.tmp 43) (.const (.bool false)), none⟩,
 ⟨some 45, .move (.tmp 44), none⟩,
 ⟨some 46, .move (.tmp 3), some (45, true)⟩,
 ⟨some 47, .call (F 214) [.tmp 46], some (45, true)⟩,
 ⟨some 48, .lenSl (.tmp 47), some (45, true)⟩,
 ⟨some 49, .bin .eql (.tmp 48) (.const (.int .i64 0)), some (45, true)⟩,
 ⟨some 50, .pick (.tmp 45) (.tmp 49) (.const (.bool false)), none⟩,
 ⟨some 51, .move (.tmp 50), none⟩,
 ⟨some 52, .move (.tmp 3), some (51, true)⟩,
 ⟨some 53, .call (F 215) [.tmp 52], some (51, true)⟩,
 ⟨some 54, .bin .eql (.tmp 53) (.const (.int .i64 0)), some (51, true)⟩,
 ⟨some 55, .pick (.tmp 51) (.tmp 54) (.const (.bool false)), none⟩,
 ⟨some 56, .move (.tmp 55), none⟩,
 ⟨some 57, .move (.tmp 3), some (56, true)⟩,
 ⟨some 58, .call (F 216) [.tmp 57], some (56, true)⟩,
 ⟨some 59, .bin .eql (.tmp 58) (.const (.string ⟨#[]⟩)), some (56, true)⟩,
 ⟨some 60, .pick (.tmp 56) (.tmp 59) (.const (.bool false)), none⟩,
 ⟨some 61, .move (.tmp 60), none⟩,
 ⟨some 62, .call (F 236) [], some (61, true)⟩,
 ⟨some 63, .pick (.tmp 61) (.tmp 62) (.const (.bool false)), none⟩,
 ⟨some 2, .move (.tmp 63), none⟩])
 (.ret)))))⟩
/-- hurdle/hurdlelaw37.few -/
def c_hurdlelaw37_few (F : Nat → FuncId) (Ty : Nat → TypeId) : IFunc := ⟨20, [.tmp 2],
 .seq (.ops [⟨some 2, .move (.const (.bool false)), none⟩])
 (.seq (.seq (.ops [⟨some 4, .move (.tmp 0), none⟩,
 ⟨some 5, .lenSl (.tmp 4), none⟩,
 ⟨some 6, .bin .gtr (.tmp 5) (.const (.int .i64 80)), none⟩])
 (.cond (.tmp 6)
 (.seq (.ops [⟨some 2, .move (.const (.bool false)), none⟩])
 (.ret))
 (.skip)))
 (.seq (.seq (.ops [⟨some 3, .move (.const (.int .i64 0)), none⟩])
 (.block 0 (.loop (.seq (.seq (.ops [⟨some 7, .move (.tmp 3), none⟩,
 ⟨some 8, .move (.tmp 0), none⟩,
 ⟨some 9, .lenSl (.tmp 8), none⟩,
 ⟨some 10, .bin .lss (.tmp 7) (.tmp 9), none⟩])
 (.cond (.tmp 10)
 (.skip)
 (.exit 0)))
 (.seq (.block 1 (.seq (.ops [⟨some 13, .move (.tmp 0), none⟩,
 ⟨some 14, .move (.tmp 3), none⟩,
 ⟨some 15, .idxSl 3 (.tmp 13) (.tmp 14), none⟩,
 ⟨some 16, .fieldAddr 2 (.tmp 15), none⟩,
 ⟨some 17, .load1 (.tmp 16), none⟩,
 ⟨some 18, .strLen (.tmp 17), none⟩,
 ⟨some 19, .bin .gtr (.tmp 18) (.const (.int .i64 300)), none⟩])
 (.cond (.tmp 19)
 (.seq (.ops [⟨some 2, .move (.const (.bool false)), none⟩])
 (.ret))
 (.skip))))
 (.ops [⟨some 11, .move (.tmp 3), none⟩,
 ⟨some 12, .bin .add (.tmp 11) (.const (.int .i64 1)), none⟩,
 ⟨some 3, .move (.tmp 12), none⟩]))))))
 (.seq (.ops [⟨some 2, .move (.const (.bool true)), none⟩])
 (.ret))))⟩
/-- hurdle/hurdlelaw37.awake -/
def c_hurdlelaw37_awake (F : Nat → FuncId) (Ty : Nat → TypeId) : IFunc := ⟨87, [.tmp 0],
 .seq (.ops [⟨some 0, .move (.const (.bool false)), none⟩])
 (.seq (.ops [⟨some 11, .call (F 204) [], none⟩,
 ⟨some 1, .move (.tmp 11), none⟩])
 (.seq (.seq (.ops [⟨some 12, .move (.tmp 1), none⟩,
 ⟨some 13, .eqNil 0 false (.tmp 12), none⟩])
 (.cond (.tmp 13)
 (.seq (.ops [⟨some 0, .move (.const (.bool false)), none⟩])
 (.ret))
 (.skip)))
 (.seq (.ops [⟨some 14, .move (.tmp 1), none⟩,
 ⟨some 15, .call (F 211) [.tmp 14, .const (.string ⟨#[97]⟩), .const (.int .i64 5)], none⟩,
 ⟨some 16, .move (.tmp 1), none⟩,
 ⟨some 17, .call (F 211) [.tmp 16, .const (.string ⟨#[97]⟩), .const (.int .i64 6)], none⟩,
 ⟨some 18, .move (.tmp 1), none⟩,
 ⟨some 19, .call (F 211) [.tmp 18, .const (.string ⟨#[47]⟩), .const (.int .i64 5)], none⟩,
 ⟨some 2, .move (.tmp 15), none⟩,
 ⟨some 3, .move (.tmp 17), none⟩,
 ⟨some 4, .move (.tmp 19), none⟩])
 (.seq (.ops [⟨some 21, .move (.tmp 1), none⟩,
 ⟨some 22, .call (F 213) [.tmp 21, .const (.string ⟨#[97]⟩)], none⟩,
 ⟨some 20, .move (.tmp 22), none⟩,
 ⟨some 23, .extract (.tmp 20) 0, none⟩,
 ⟨some 24, .extract (.tmp 20) 1, none⟩,
 ⟨some 5, .move (.tmp 23), none⟩,
 ⟨some 6, .move (.tmp 24), none⟩])
 (.seq (.ops [⟨some 26, .move (.tmp 1), none⟩,
 ⟨some 27, .call (F 216) [.tmp 26], none⟩,
 ⟨some 28, .call (F 217) [.tmp 27], none⟩,
 ⟨some 25, .move (.tmp 28), none⟩,
 ⟨some 29, .extract (.tmp 25) 0, none⟩,
 ⟨some 30, .extract (.tmp 25) 1, none⟩,
 ⟨some 7, .move (.tmp 29), none⟩,
 ⟨some 8, .move (.tmp 30), none⟩])
 (.seq (.ops [⟨some 32, .move (.tmp 1), none⟩,
 ⟨some 33, .call (F 212) [.tmp 32, .const (.string ⟨#[97]⟩)], none⟩,
 ⟨some 31, .move (.tmp 33), none⟩,
 ⟨some 34, .extract (.tmp 31) 0, none⟩,
 ⟨some 35, .extract (.tmp 31) 1, none⟩,
 ⟨some 9, .move (.tmp 34), none⟩,
 ⟨some 10, .move (.tmp 35), none⟩])
 (.seq (.ops [⟨some 36, .move (.tmp 2), none⟩,
 ⟨some 37, .bin .eql (.tmp 36) (.const (.int .i64 0)), none⟩,
 ⟨some 38, .move (.tmp 37), none⟩,
 ⟨some 39, .move (.tmp 3), some (38, true)⟩,
 ⟨some 40, .bin .eql (.tmp 39) (.const (.int .i64 6)), some (38, true)⟩,
 ⟨some 41, .pick (.tmp 38) (.tmp 40) (.const (.bool false)), none⟩,
 ⟨some 42, .move (.tmp 41), none⟩,
 ⟨some 43, .move (.tmp 4), some (42, true)⟩,
 ⟨some 44, .bin .eql (.tmp 43) (.const (.int .i64 15)), some (42, true)⟩,
 ⟨some 45, .pick (.tmp 42) (.tmp 44) (.const (.bool false)), none⟩,
 ⟨some 46, .move (.tmp 45), none⟩,
 ⟨some 47, .move (.tmp 5), some (46, true)⟩,
 ⟨some 48, .bin .eql (.tmp 47) (.const (.int .i64 5)), some (46, true)⟩,
 ⟨some 49, .pick (.tmp 46) (.tmp 48) (.const (.bool false)), none⟩,
 ⟨some 50, .move (.tmp 49), none⟩,
 ⟨some 51, .move (.tmp 6), some (50, true)⟩,
 ⟨some 52, .bin .eql (.tmp 51) (.const (.int .i64 0)), some (50, true)⟩,
 ⟨some 53, .pick (.tmp 50) (.tmp 52) (.const (.bool false)), none⟩,
 ⟨some 54, .move (.tmp 53), none⟩,
 ⟨some 55, .move (.tmp 8), some (54, true)⟩,
 ⟨some 56, .bin .eql (.tmp 55) (.const (.int .i64 0)), some (54, true)⟩,
 ⟨some 57, .pick (.tmp 54) (.tmp 56) (.const (.bool false)), none⟩,
 ⟨some 58, .move (.tmp 57), none⟩,
 ⟨some 59, .move (.tmp 7), some (58, true)⟩,
 ⟨some 60, .call (F 215) [.tmp 59], some (58, true)⟩,
 ⟨some 61, .bin .eql (.tmp 60) (.const (.int .i64 1)), some (58, true)⟩,
 ⟨some 62, .pick (.tmp 58) (.tmp 61) (.const (.bool false)), none⟩,
 ⟨some 63, .move (.tmp 62), none⟩,
 ⟨some 64, .move (.tmp 9), some (63, true)⟩,
 ⟨some 65, .bin .eql (.tmp 64) (.const (.int .i64 5)), some (63, true)⟩,
 ⟨some 66, .pick (.tmp 63) (.tmp 65) (.const (.bool false)), none⟩,
 ⟨some 67, .move (.tmp 66), none⟩,
 ⟨some 68, .move (.tmp 10), some (67, true)⟩,
 ⟨some 69, .bin .eql (.tmp 68) (.const (.int .i64 0)), some (67, true)⟩,
 ⟨some 70, .pick (.tmp 67) (.tmp 69) (.const (.bool false)), none⟩,
 ⟨some 71, .move (.tmp 70), none⟩,
 ⟨some 72, .move (.tmp 1), some (71, true)⟩,
 ⟨some 73, .call (F 215) [.tmp 72], some (71, true)⟩,
 ⟨some 74, .bin .eql (.tmp 73) (.const (.int .i64 0)), some (71, true)⟩,
 ⟨some 75, .pick (.tmp 71) (.tmp 74) (.const (.bool false)), none⟩,
 ⟨some 76, .move (.tmp 75), none⟩,
 ⟨some 77, .call (F 208) [.const (.string ⟨#[97, 46]⟩)], some (76, true)⟩,
 ⟨some 78, .pick (.tmp 76) (.tmp 77) (.const (.bool false)), none⟩,
 ⟨some 79, .move (.tmp 78), none⟩,
 ⟨some 80, .call (F 208) [.const (.string ⟨#[46, 46]⟩)], some (79, true)⟩,
 ⟨some 81, .un .not (.tmp 80), some (79, true)⟩,
 ⟨some 82, .pick (.tmp 79) (.tmp 81) (.const (.bool false)), none⟩,
 ⟨some 83, .move (.tmp 82), none⟩,
 ⟨some 84, .call (F 208) [.const (.string ⟨#[]⟩)], some (83, true)⟩,
 ⟨some 85, .un .not (.tmp 84), some (83, true)⟩,
 ⟨some 86, .pick (.tmp 83) (.tmp 85) (.const (.bool false)), none⟩,
 ⟨some 0, .move (.tmp 86), none⟩])
 (.ret))))))))⟩
/-- A context has these functions. -/
structure HasLaw37 (c : Ctx) : Prop where
 hurdlelaw37_DirsPlays : c.IP (c.F 231) = some (c_hurdlelaw37_DirsPlays c.F c.Ty)
 hurdlelaw37_DirsReads : c.IP (c.F 232) = some (c_hurdlelaw37_DirsReads c.F c.Ty)
 hurdlelaw37_DirsBack : c.IP (c.F 233) = some (c_hurdlelaw37_DirsBack c.F c.Ty)
 hurdlelaw37_DirsNone : c.IP (c.F 234) = some (c_hurdlelaw37_DirsNone c.F c.Ty)
 hurdlelaw37_few : c.IP (c.F 235) = some (c_hurdlelaw37_few c.F c.Ty)
 hurdlelaw37_awake : c.IP (c.F 236) = some (c_hurdlelaw37_awake c.F c.Ty)

end Go.Proofs.YtfegliplajdgmaaI
