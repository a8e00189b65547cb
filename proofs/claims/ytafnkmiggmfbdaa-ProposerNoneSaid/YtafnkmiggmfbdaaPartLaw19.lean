/- PRINTED by gen.py (this session's own): the intermediate form of some functions, and a context's having them. -/
import Derived.Test.YtafnkmiggmfbdaaPartProp
namespace Go.Proofs.YtafnkmiggmfbdaaI
set_option linter.unusedSimpArgs false
set_option linter.unusedVariables false
open Go

/-- hurdle/hurdlelaw19.ProposerSafe -/
abbrev n_hurdlelaw19_ProposerSafe : Nat := 285
/-- hurdle/hurdlelaw19.ProposerNone -/
abbrev n_hurdlelaw19_ProposerNone : Nat := 286
/-- hurdle/hurdlelaw19.awake -/
abbrev n_hurdlelaw19_awake : Nat := 287
/-- hurdle/hurdlelaw19.ProposerSafe -/
def c_hurdlelaw19_ProposerSafe (F : Nat → FuncId) (Ty : Nat → TypeId) : IFunc := ⟨228, [.tmp 6],
 .seq (.ops [⟨some 6, .move (.const (.bool false)), none⟩])
 (.seq (.seq (.ops [⟨some 22, .move (.tmp 2), none⟩,
 ⟨some 23, .lenSl (.tmp 22), none⟩,
 ⟨some 24, .bin .gtr (.tmp 23) (.const (.int .i64 7)), none⟩,
 ⟨some 25, .move (.tmp 24), none⟩,
 ⟨some 26, .move (.tmp 2), some (25, false)⟩,
 ⟨some 27, .lenSl (.tmp 26), some (25, false)⟩,
 ⟨some 28, .move (.tmp 0), some (25, false)⟩,
 ⟨some 29, .call (F 18) [.tmp 28], some (25, false)⟩,
 ⟨some 30, .bin .lss (.tmp 27) (.tmp 29), some (25, false)⟩,
 ⟨some 31, .pick (.tmp 25) (.const (.bool true)) (.tmp 30), none⟩,
 ⟨some 32, .move (.tmp 31), none⟩,
 ⟨some 33, .move (.tmp 0), some (32, false)⟩,
 ⟨some 34, .call (F 18) [.tmp 33], some (32, false)⟩,
 ⟨some 35, .bin .eql (.tmp 34) (.const (.int .i64 0)), some (32, false)⟩,
 ⟨some 36, .pick (.tmp 32) (.const (.bool true)) (.tmp 35), none⟩])
 (.cond (.tmp 36)
 (.seq (.ops [⟨some 37, .call (F 287) [], none⟩,
 ⟨some 6, .move (.tmp 37), none⟩])
 (.ret))
 (.skip)))
 (.seq (.ops [⟨some 38, .move (.tmp 0), none⟩,
 ⟨some 39, .move (.tmp 1), none⟩,
 ⟨some 40, .call (F 275) [.tmp 38, .tmp 39], none⟩,
 ⟨some 7, .move (.tmp 40), none⟩])
 (.seq (.seq (.ops [⟨some 41, .move (.tmp 7), none⟩,
 ⟨some 42, .eqNil 0 false (.tmp 41), none⟩])
 (.cond (.tmp 42)
 (.seq (.ops [⟨some 43, .call (F 287) [], none⟩,
 ⟨some 6, .move (.tmp 43), none⟩])
 (.ret))
 (.skip)))
 (.seq (.ops [⟨some 45, .move (.tmp 7), none⟩,
 ⟨some 46, .build [.int .i64 0, .int .i64 0] [((0, 1), .const (.int .i64 9))], none⟩,
 ⟨some 47, .call (F 276) [.tmp 45, .tmp 46, .const (.int .i64 0)], none⟩,
 ⟨some 44, .move (.tmp 47), none⟩,
 ⟨some 48, .extract (.tmp 44) 0, none⟩,
 ⟨some 49, .extract (.tmp 44) 1, none⟩,
 ⟨some 8, .alloc [.int .i64 0, .int .i64 0], none⟩,
 ⟨none, .store 2 (.tmp 8) (.tmp 48), none⟩,
 ⟨some 9, .move (.tmp 49), none⟩])
 (.seq (.seq (.ops [⟨some 50, .move (.tmp 9), none⟩,
 ⟨some 51, .bin .neq (.tmp 50) (.const (.int .i64 0)), none⟩])
 (.cond (.tmp 51)
 (.seq (.ops [⟨some 6, .move (.const (.bool false)), none⟩])
 (.ret))
 (.skip)))
 (.seq (.ops [⟨some 10, .move (.const (.slice none 0 0)), none⟩])
 (.seq (.seq (.ops [⟨some 11, .move (.const (.int .i64 0)), none⟩])
 (.block 0 (.loop (.seq (.seq (.ops [⟨some 52, .move (.tmp 11), none⟩,
 ⟨some 53, .move (.tmp 0), none⟩,
 ⟨some 54, .call (F 18) [.tmp 53], none⟩,
 ⟨some 55, .bin .lss (.tmp 52) (.tmp 54), none⟩])
 (.cond (.tmp 55)
 (.skip)
 (.exit 0)))
 (.seq (.block 1 (.seq (.seq (.ops [⟨some 58, .move (.tmp 2), none⟩,
 ⟨some 59, .move (.tmp 11), none⟩,
 ⟨some 60, .idxSl 1 (.tmp 58) (.tmp 59), none⟩,
 ⟨some 61, .load1 (.tmp 60), none⟩,
 ⟨some 62, .lenSl (.tmp 61), none⟩,
 ⟨some 63, .bin .gtr (.tmp 62) (.const (.int .i64 20)), none⟩])
 (.cond (.tmp 63)
 (.seq (.ops [⟨some 64, .call (F 287) [], none⟩,
 ⟨some 6, .move (.tmp 64), none⟩])
 (.ret))
 (.skip)))
 (.seq (.draw [(⟨some 65, .move (.tmp 7), none⟩, []),
 (⟨some 66, .move (.tmp 11), none⟩, []),
 (⟨some 67, .loadN 2 (.tmp 8), none⟩, []),
 (⟨some 68, .move (.tmp 2), none⟩, []),
 (⟨some 69, .move (.tmp 11), none⟩, []),
 (⟨some 70, .idxSl 1 (.tmp 68) (.tmp 69), none⟩, []),
 (⟨some 71, .load1 (.tmp 70), none⟩, []),
 (⟨some 72, .call (F 278) [.tmp 65, .tmp 66, .tmp 67, .tmp 71], none⟩, [])])
 (.seq (.ops [⟨some 12, .move (.const (.int .i64 0)), none⟩])
 (.block 2 (.loop (.seq (.seq (.ops [⟨some 73, .move (.tmp 12), none⟩,
 ⟨some 74, .move (.tmp 2), none⟩,
 ⟨some 75, .move (.tmp 11), none⟩,
 ⟨some 76, .idxSl 1 (.tmp 74) (.tmp 75), none⟩,
 ⟨some 77, .load1 (.tmp 76), none⟩,
 ⟨some 78, .lenSl (.tmp 77), none⟩,
 ⟨some 79, .bin .lss (.tmp 73) (.tmp 78), none⟩])
 (.cond (.tmp 79)
 (.skip)
 (.exit 2)))
 (.seq (.block 3 (.seq (.ops [⟨some 82, .move (.tmp 2), none⟩,
 ⟨some 83, .move (.tmp 11), none⟩,
 ⟨some 84, .idxSl 1 (.tmp 82) (.tmp 83), none⟩,
 ⟨some 85, .load1 (.tmp 84), none⟩,
 ⟨some 86, .move (.tmp 12), none⟩,
 ⟨some 87, .idxSl 4 (.tmp 85) (.tmp 86), none⟩,
 ⟨some 88, .loadN 4 (.tmp 87), none⟩,
 ⟨some 13, .alloc [.int .i64 0, .int .i64 0, .int .i64 0, .string ⟨#[]⟩], none⟩,
 ⟨none, .store 4 (.tmp 13) (.tmp 88), none⟩])
 (.seq (.ops [⟨some 89, .fieldAddr 0 (.tmp 13), none⟩,
 ⟨some 90, .load1 (.tmp 89), none⟩,
 ⟨some 91, .bin .geq (.tmp 90) (.const (.int .i64 0)), none⟩,
 ⟨some 92, .move (.tmp 91), none⟩,
 ⟨some 93, .fieldAddr 0 (.tmp 13), some (92, true)⟩,
 ⟨some 94, .load1 (.tmp 93), some (92, true)⟩,
 ⟨some 95, .bin .lss (.tmp 94) (.const (.int .i64 1024)), some (92, true)⟩,
 ⟨some 96, .pick (.tmp 92) (.tmp 95) (.const (.bool false)), none⟩,
 ⟨some 97, .move (.tmp 96), none⟩,
 ⟨some 98, .fieldAddr 1 (.tmp 13), some (97, true)⟩,
 ⟨some 99, .loadN 2 (.tmp 98), some (97, true)⟩,
 ⟨some 100, .call (F 15) [.tmp 99], some (97, true)⟩,
 ⟨some 101, .pick (.tmp 97) (.tmp 100) (.const (.bool false)), none⟩,
 ⟨some 102, .move (.tmp 101), none⟩,
 ⟨some 103, .fieldAddr 3 (.tmp 13), some (102, true)⟩,
 ⟨some 104, .load1 (.tmp 103), some (102, true)⟩,
 ⟨some 105, .strLen (.tmp 104), some (102, true)⟩,
 ⟨some 106, .bin .leq (.tmp 105) (.const (.int .i64 4096)), some (102, true)⟩,
 ⟨some 107, .pick (.tmp 102) (.tmp 106) (.const (.bool false)), none⟩])
 (.cond (.tmp 107)
 (.ops [⟨some 108, .move (.tmp 10), none⟩,
 ⟨some 109, .loadN 4 (.tmp 13), none⟩,
 ⟨some 110, .buildSlice 1 [.int .i64 0, .int .i64 0, .int .i64 0, .string ⟨#[]⟩] [((0, 4), .tmp 109)], none⟩,
 ⟨some 111, .append 4 40 (.tmp 108) (.tmp 110), none⟩,
 ⟨some 10, .move (.tmp 111), none⟩])
 (.skip)))))
 (.ops [⟨some 80, .move (.tmp 12), none⟩,
 ⟨some 81, .bin .add (.tmp 80) (.const (.int .i64 1)), none⟩,
 ⟨some 12, .move (.tmp 81), none⟩])))))))))
 (.ops [⟨some 56, .move (.tmp 11), none⟩,
 ⟨some 57, .bin .add (.tmp 56) (.const (.int .i64 1)), none⟩,
 ⟨some 11, .move (.tmp 57), none⟩]))))))
 (.seq (.seq (.ops [⟨some 112, .move (.tmp 7), none⟩,
 ⟨some 113, .call (F 279) [.tmp 112], none⟩,
 ⟨some 114, .un .not (.tmp 113), none⟩])
 (.cond (.tmp 114)
 (.seq (.ops [⟨some 6, .move (.const (.bool false)), none⟩])
 (.ret))
 (.skip)))
 (.seq (.ops [⟨some 115, .move (.tmp 7), none⟩,
 ⟨some 116, .call (F 281) [.tmp 115], none⟩,
 ⟨some 14, .move (.tmp 116), none⟩])
 (.seq (.seq (.ops [⟨some 15, .move (.const (.int .i64 0)), none⟩])
 (.block 4 (.loop (.seq (.seq (.ops [⟨some 117, .move (.tmp 15), none⟩,
 ⟨some 118, .move (.tmp 14), none⟩,
 ⟨some 119, .lenSl (.tmp 118), none⟩,
 ⟨some 120, .bin .lss (.tmp 117) (.tmp 119), none⟩])
 (.cond (.tmp 120)
 (.skip)
 (.exit 4)))
 (.seq (.block 5 (.seq (.draw [(⟨some 123, .move (.tmp 14), none⟩, []),
 (⟨some 124, .move (.tmp 15), none⟩, []),
 (⟨some 125, .idxSl 4 (.tmp 123) (.tmp 124), none⟩, []),
 (⟨some 126, .fieldAddr 0 (.tmp 125), none⟩, []),
 (⟨some 127, .load1 (.tmp 126), none⟩, []),
 (⟨some 128, .move (.tmp 15), none⟩, []),
 (⟨some 129, .bin .neq (.tmp 127) (.tmp 128), none⟩, []),
 (⟨some 130, .move (.tmp 129), none⟩, []),
 (⟨some 131, .move (.tmp 14), some (130, false)⟩, []),
 (⟨some 132, .move (.tmp 15), some (130, false)⟩, []),
 (⟨some 133, .idxSl 4 (.tmp 131) (.tmp 132), some (130, false)⟩, []),
 (⟨some 134, .fieldAddr 1 (.tmp 133), some (130, false)⟩, []),
 (⟨some 135, .loadN 2 (.tmp 134), some (130, false)⟩, []),
 (⟨some 136, .loadN 2 (.tmp 8), some (130, false)⟩, []),
 (⟨some 137, .eqv true [.i .i64, .i .i64] (.tmp 135) (.tmp 136), some (130, false)⟩, []),
 (⟨some 138, .pick (.tmp 130) (.const (.bool true)) (.tmp 137), none⟩, [])])
 (.cond (.tmp 138)
 (.seq (.ops [⟨some 6, .move (.const (.bool false)), none⟩])
 (.ret))
 (.skip))))
 (.ops [⟨some 121, .move (.tmp 15), none⟩,
 ⟨some 122, .bin .add (.tmp 121) (.const (.int .i64 1)), none⟩,
 ⟨some 15, .move (.tmp 122), none⟩]))))))
 (.seq (.seq (.ops [⟨some 16, .move (.const (.int .i64 0)), none⟩])
 (.block 6 (.loop (.seq (.seq (.ops [⟨some 139, .move (.tmp 16), none⟩,
 ⟨some 140, .move (.tmp 10), none⟩,
 ⟨some 141, .lenSl (.tmp 140), none⟩,
 ⟨some 142, .bin .lss (.tmp 139) (.tmp 141), none⟩])
 (.cond (.tmp 142)
 (.skip)
 (.exit 6)))
 (.seq (.block 7 (.seq (.ops [⟨some 145, .move (.tmp 10), none⟩,
 ⟨some 146, .move (.tmp 16), none⟩,
 ⟨some 147, .idxSl 4 (.tmp 145) (.tmp 146), none⟩,
 ⟨some 148, .fieldAddr 0 (.tmp 147), none⟩,
 ⟨some 149, .load1 (.tmp 148), none⟩,
 ⟨some 17, .move (.tmp 149), none⟩])
 (.seq (.ops [⟨some 150, .move (.tmp 10), none⟩,
 ⟨some 151, .move (.tmp 16), none⟩,
 ⟨some 152, .idxSl 4 (.tmp 150) (.tmp 151), none⟩,
 ⟨some 153, .loadN 4 (.tmp 152), none⟩,
 ⟨some 18, .alloc [.int .i64 0, .int .i64 0, .int .i64 0, .string ⟨#[]⟩], none⟩,
 ⟨none, .store 4 (.tmp 18) (.tmp 153), none⟩])
 (.seq (.seq (.ops [⟨some 19, .move (.const (.int .i64 0)), none⟩])
 (.block 8 (.loop (.seq (.seq (.ops [⟨some 154, .move (.tmp 19), none⟩,
 ⟨some 155, .move (.tmp 10), none⟩,
 ⟨some 156, .lenSl (.tmp 155), none⟩,
 ⟨some 157, .bin .lss (.tmp 154) (.tmp 156), none⟩])
 (.cond (.tmp 157)
 (.skip)
 (.exit 8)))
 (.seq (.block 9 (.seq (.draw [(⟨some 160, .move (.tmp 10), none⟩, []),
 (⟨some 161, .move (.tmp 19), none⟩, []),
 (⟨some 162, .idxSl 4 (.tmp 160) (.tmp 161), none⟩, []),
 (⟨some 163, .fieldAddr 0 (.tmp 162), none⟩, []),
 (⟨some 164, .load1 (.tmp 163), none⟩, []),
 (⟨some 165, .move (.tmp 17), none⟩, []),
 (⟨some 166, .bin .eql (.tmp 164) (.tmp 165), none⟩, []),
 (⟨some 167, .move (.tmp 166), none⟩, []),
 (⟨some 168, .move (.tmp 10), some (167, true)⟩, []),
 (⟨some 169, .move (.tmp 19), some (167, true)⟩, []),
 (⟨some 170, .idxSl 4 (.tmp 168) (.tmp 169), some (167, true)⟩, []),
 (⟨some 171, .fieldAddr 1 (.tmp 170), some (167, true)⟩, []),
 (⟨some 172, .loadN 2 (.tmp 171), some (167, true)⟩, []),
 (⟨some 173, .fieldAddr 1 (.tmp 18), some (167, true)⟩, []),
 (⟨some 174, .loadN 2 (.tmp 173), some (167, true)⟩, []),
 (⟨some 175, .call (F 14) [.tmp 172, .tmp 174], some (167, true)⟩, []),
 (⟨some 176, .bin .gtr (.tmp 175) (.const (.int .i64 0)), some (167, true)⟩, []),
 (⟨some 177, .pick (.tmp 167) (.tmp 176) (.const (.bool false)), none⟩, [])])
 (.cond (.tmp 177)
 (.ops [⟨some 178, .move (.tmp 10), none⟩,
 ⟨some 179, .move (.tmp 19), none⟩,
 ⟨some 180, .idxSl 4 (.tmp 178) (.tmp 179), none⟩,
 ⟨some 181, .loadN 4 (.tmp 180), none⟩,
 ⟨none, .store 4 (.tmp 18) (.tmp 181), none⟩])
 (.skip))))
 (.ops [⟨some 158, .move (.tmp 19), none⟩,
 ⟨some 159, .bin .add (.tmp 158) (.const (.int .i64 1)), none⟩,
 ⟨some 19, .move (.tmp 159), none⟩]))))))
 (.seq (.seq (.ops [⟨some 182, .move (.tmp 17), none⟩,
 ⟨some 183, .move (.tmp 14), none⟩,
 ⟨some 184, .lenSl (.tmp 183), none⟩,
 ⟨some 185, .bin .geq (.tmp 182) (.tmp 184), none⟩])
 (.cond (.tmp 185)
 (.seq (.ops [⟨some 6, .move (.const (.bool false)), none⟩])
 (.ret))
 (.skip)))
 (.seq (.ops [⟨some 20, .move (.const (.bool false)), none⟩])
 (.seq (.seq (.ops [⟨some 21, .move (.const (.int .i64 0)), none⟩])
 (.block 10 (.loop (.seq (.seq (.ops [⟨some 186, .move (.tmp 21), none⟩,
 ⟨some 187, .move (.tmp 10), none⟩,
 ⟨some 188, .lenSl (.tmp 187), none⟩,
 ⟨some 189, .bin .lss (.tmp 186) (.tmp 188), none⟩])
 (.cond (.tmp 189)
 (.skip)
 (.exit 10)))
 (.seq (.block 11 (.draw [(⟨some 192, .move (.tmp 20), none⟩, []),
 (⟨some 193, .move (.tmp 192), none⟩, []),
 (⟨some 194, .move (.tmp 10), some (193, false)⟩, []),
 (⟨some 195, .move (.tmp 21), some (193, false)⟩, []),
 (⟨some 196, .idxSl 4 (.tmp 194) (.tmp 195), some (193, false)⟩, []),
 (⟨some 197, .fieldAddr 0 (.tmp 196), some (193, false)⟩, []),
 (⟨some 198, .load1 (.tmp 197), some (193, false)⟩, []),
 (⟨some 199, .move (.tmp 17), some (193, false)⟩, []),
 (⟨some 200, .bin .eql (.tmp 198) (.tmp 199), some (193, false)⟩, []),
 (⟨some 201, .move (.tmp 200), some (193, false)⟩, []),
 (⟨some 202, .move (.tmp 10), some (201, true)⟩, []),
 (⟨some 203, .move (.tmp 21), some (201, true)⟩, []),
 (⟨some 204, .idxSl 4 (.tmp 202) (.tmp 203), some (201, true)⟩, []),
 (⟨some 205, .fieldAddr 1 (.tmp 204), some (201, true)⟩, []),
 (⟨some 206, .loadN 2 (.tmp 205), some (201, true)⟩, []),
 (⟨some 207, .fieldAddr 1 (.tmp 18), some (201, true)⟩, []),
 (⟨some 208, .loadN 2 (.tmp 207), some (201, true)⟩, []),
 (⟨some 209, .eqv false [.i .i64, .i .i64] (.tmp 206) (.tmp 208), some (201, true)⟩, []),
 (⟨some 210, .pick (.tmp 201) (.tmp 209) (.const (.bool false)), some (193, false)⟩, []),
 (⟨some 211, .move (.tmp 210), some (193, false)⟩, []),
 (⟨some 212, .move (.tmp 10), some (211, true)⟩, []),
 (⟨some 213, .move (.tmp 21), some (211, true)⟩, []),
 (⟨some 214, .idxSl 4 (.tmp 212) (.tmp 213), some (211, true)⟩, []),
 (⟨some 215, .fieldAddr 3 (.tmp 214), some (211, true)⟩, []),
 (⟨some 216, .load1 (.tmp 215), some (211, true)⟩, []),
 (⟨some 217, .move (.tmp 14), some (211, true)⟩, []),
 (⟨some 218, .move (.tmp 17), some (211, true)⟩, []),
 (⟨some 219, .idxSl 4 (.tmp 217) (.tmp 218), some (211, true)⟩, []),
 (⟨some 220, .fieldAddr 3 (.tmp 219), some (211, true)⟩, []),
 (⟨some 221, .load1 (.tmp 220), some (211, true)⟩, []),
 (⟨some 222, .bin .eql (.tmp 216) (.tmp 221), some (211, true)⟩, []),
 (⟨some 223, .pick (.tmp 211) (.tmp 222) (.const (.bool false)), some (193, false)⟩, []),
 (⟨some 224, .pick (.tmp 193) (.const (.bool true)) (.tmp 223), none⟩, []),
 (⟨some 20, .move (.tmp 224), none⟩, [])]))
 (.ops [⟨some 190, .move (.tmp 21), none⟩,
 ⟨some 191, .bin .add (.tmp 190) (.const (.int .i64 1)), none⟩,
 ⟨some 21, .move (.tmp 191), none⟩]))))))
 (.seq (.ops [⟨some 225, .move (.tmp 20), none⟩,
 ⟨some 226, .un .not (.tmp 225), none⟩])
 (.cond (.tmp 226)
 (.seq (.ops [⟨some 6, .move (.const (.bool false)), none⟩])
 (.ret))
 (.skip))))))))))
 (.ops [⟨some 143, .move (.tmp 16), none⟩,
 ⟨some 144, .bin .add (.tmp 143) (.const (.int .i64 1)), none⟩,
 ⟨some 16, .move (.tmp 144), none⟩]))))))
 (.seq (.ops [⟨some 227, .call (F 287) [], none⟩,
 ⟨some 6, .move (.tmp 227), none⟩])
 (.ret)))))))))))))⟩
/-- hurdle/hurdlelaw19.ProposerNone -/
def c_hurdlelaw19_ProposerNone (F : Nat → FuncId) (Ty : Nat → TypeId) : IFunc := ⟨81, [.tmp 2],
 .seq (.ops [⟨some 1, .box (.tmp 0), none⟩,
 ⟨some 2, .move (.const (.bool false)), none⟩])
 (.seq (.ops [⟨some 3, .move (.const (.pointer none)), none⟩])
 (.seq (.ops [⟨some 9, .move (.tmp 3), none⟩,
 ⟨some 10, .fieldAddr 2 (.tmp 1), none⟩,
 ⟨some 11, .fieldAddr 1 (.tmp 10), none⟩,
 ⟨some 12, .loadN 2 (.tmp 11), none⟩,
 ⟨some 13, .fieldAddr 1 (.tmp 1), none⟩,
 ⟨some 14, .load1 (.tmp 13), none⟩,
 ⟨some 15, .call (F 276) [.tmp 9, .tmp 12, .tmp 14], none⟩,
 ⟨some 8, .move (.tmp 15), none⟩,
 ⟨some 16, .extract (.tmp 8) 0, none⟩,
 ⟨some 17, .extract (.tmp 8) 1, none⟩,
 ⟨some 4, .alloc [.int .i64 0, .int .i64 0], none⟩,
 ⟨none, .store 2 (.tmp 4) (.tmp 16), none⟩,
 ⟨some 5, .move (.tmp 17), none⟩])
 (.seq (.ops [⟨some 19, .move (.tmp 3), none⟩,
 ⟨some 20, .fieldAddr 2 (.tmp 1), none⟩,
 ⟨some 21, .fieldAddr 3 (.tmp 20), none⟩,
 ⟨some 22, .load1 (.tmp 21), none⟩,
 ⟨some 23, .call (F 282) [.tmp 19, .tmp 22], none⟩,
 ⟨some 18, .move (.tmp 23), none⟩,
 ⟨some 24, .extract (.tmp 18) 0, none⟩,
 ⟨some 25, .extract (.tmp 18) 1, none⟩,
 ⟨some 6, .alloc [.int .i64 0, .int .i64 0, .int .i64 0, .string ⟨#[]⟩], none⟩,
 ⟨none, .store 4 (.tmp 6) (.tmp 24), none⟩,
 ⟨some 7, .move (.tmp 25), none⟩])
 (.seq (.ops [⟨some 26, .loadN 2 (.tmp 4), none⟩,
 ⟨some 27, .build [.int .i64 0, .int .i64 0] [], none⟩,
 ⟨some 28, .eqv false [.i .i64, .i .i64] (.tmp 26) (.tmp 27), none⟩,
 ⟨some 29, .move (.tmp 28), none⟩,
 ⟨some 30, .move (.tmp 5), some (29, true)⟩,
 ⟨some 31, .bin .eql (.tmp 30) (.const (.int .i64 1)), some (29, true)⟩,
 ⟨some 32, .pick (.tmp 29) (.tmp 31) (.const (.bool false)), none⟩,
 ⟨some 33, .move (.tmp 32), none⟩,
 ⟨some 34, .move (.tmp 3), some (33, true)⟩,
 ⟨some 35, .fieldAddr 1 (.tmp 1), some (33, true)⟩,
 ⟨some 36, .load1 (.tmp 35), some (33, true)⟩,
 ⟨some 37, .fieldAddr 2 (.tmp 1), some (33, true)⟩,
 ⟨some 38, .fieldAddr 1 (.tmp 37), some (33, true)⟩,
 ⟨some 39, .loadN 2 (.tmp 38), some (33, true)⟩,
 ⟨some 40, .fieldAddr 6 (.tmp 1), some (33, true)⟩,
 ⟨some 41, .load1 (.tmp 40), some (33, true)⟩,
 ⟨some 42, .call (F 278) [.tmp 34, .tmp 36, .tmp 39, .tmp 41], some (33, true)⟩,
 ⟨some 43, .un .not (.tmp 42), some (33, true)⟩,
 ⟨some 44, .pick (.tmp 33) (.tmp 43) (.const (.bool false)), none⟩,
 ⟨some 45, .move (.tmp 44), none⟩,
 ⟨some 46, .move (.tmp 3), some (45, true)⟩,
 ⟨some 47, .call (F 279) [.tmp 46], some (45, true)⟩,
 ⟨some 48, .un .not (.tmp 47), some (45, true)⟩,
 ⟨some 49, .pick (.tmp 45) (.tmp 48) (.const (.bool false)), none⟩,
 ⟨some 50, .move (.tmp 49), none⟩,
 ⟨some 51, .move (.tmp 3), some (50, true)⟩,
 ⟨some 52, .call (F 281) [.tmp 51], some (50, true)⟩,
 ⟨some 53, .lenSl (.tmp 52), some (50, true)⟩,
 ⟨some 54, .bin .eql (.tmp 53) (.const (.int .i64 0)), some (50, true)⟩,
 ⟨some 55, .pick (.tmp 50) (.tmp 54) (.const (.bool false)), none⟩,
 ⟨some 56, .move (.tmp 55), none⟩,
 ⟨some 57, .loadN 4 (.tmp 6), some (56, true)⟩,
 ⟨some 58, .build [.int .i64 0, .int .i64 0, .int .i64 0, .string ⟨#[]⟩] [], some (56, true)⟩,
 ⟨some 59, .eqv false [.i .i64, .i .i64, .i .i64, .s] (.tmp 57) (.tmp 58), some (56, true)⟩,
 ⟨some 60, .pick (.tmp 56) (.tmp 59) (.const (.bool false)), none⟩,
 ⟨some 61, .move (.tmp 60), none⟩,
 ⟨some 62, .move (.tmp 7), some (61, true)⟩,
 ⟨some 63, .bin .eql (.tmp 62) (.const (.int .i64 1)), some (61, true)⟩,
 ⟨some 64, .pick (.tmp 61) (.tmp 63) (.const (.bool false)), none⟩,
 ⟨some 65, .move (.tmp 64), none⟩,
 ⟨some 66, .move (.tmp 3), some (65, true)⟩,
 ⟨some 67, .fieldAddr 2 (.tmp 1), some (65, true)⟩,
 ⟨some 68, .fieldAddr 1 (.tmp 67), some (65, true)⟩,
 ⟨some 69, .loadN 2 (.tmp 68), some (65, true)⟩,
 ⟨some 70, .call (F 283) [.tmp 66, .tmp 69], some (65, true)⟩,
 ⟨some 71, .un .not (.tmp 70), some (65, true)⟩,
 ⟨some 72, .pick (.tmp 65) (.tmp 71) (.const (.bool false)), none⟩,
 ⟨some 73, .move (.tmp 72), none⟩,
 ⟨some 74, .move (.tmp 3), some (73, true)⟩,
 ⟨some 75, .call (F 284) [.tmp 74], some (73, true)⟩,
 ⟨some 76, .bin .eql (.tmp 75) (.const (.int .i64 0)), some (73, true)⟩,
 ⟨some 77, .pick (.tmp 73) (.tmp 76) (.const (.bool false)), none⟩,
 ⟨some 78, .move (.tmp 77), none⟩,
 ⟨some 79, .call (F 287) [], some (78, true)⟩,
 ⟨some 80, .pick (.tmp 78) (.tmp 79) (.const (.bool false)), none⟩,
 ⟨some 2, .move (.tmp 80), none⟩])
 (.ret)))))⟩
/-- hurdle/hurdlelaw19.awake -/
def c_hurdlelaw19_awake (F : Nat → FuncId) (Ty : Nat → TypeId) : IFunc := ⟨129, [.tmp 0],
 .seq (.ops [⟨some 0, .move (.const (.bool false)), none⟩])
 (.seq (.ops [⟨some 13, .call (F 275) [.const (.int .i64 3), .const (.int .i64 1)], none⟩,
 ⟨some 1, .move (.tmp 13), none⟩])
 (.seq (.seq (.ops [⟨some 14, .move (.tmp 1), none⟩,
 ⟨some 15, .eqNil 0 false (.tmp 14), none⟩,
 ⟨some 16, .move (.tmp 15), none⟩,
 ⟨some 17, .call (F 275) [.const (.int .i64 3), .const (.int .i64 3)], some (16, false)⟩,
 ⟨some 18, .eqNil 0 true (.tmp 17), some (16, false)⟩,
 ⟨some 19, .pick (.tmp 16) (.const (.bool true)) (.tmp 18), none⟩])
 (.cond (.tmp 19)
 (.seq (.ops [⟨some 0, .move (.const (.bool false)), none⟩])
 (.ret))
 (.skip)))
 (.seq (.ops [⟨some 21, .move (.tmp 1), none⟩,
 ⟨some 22, .build [.int .i64 0, .int .i64 0] [((0, 1), .const (.int .i64 4))], none⟩,
 ⟨some 23, .call (F 276) [.tmp 21, .tmp 22, .const (.int .i64 2)], none⟩,
 ⟨some 20, .move (.tmp 23), none⟩,
 ⟨some 24, .extract (.tmp 20) 0, none⟩,
 ⟨some 25, .extract (.tmp 20) 1, none⟩,
 ⟨some 2, .alloc [.int .i64 0, .int .i64 0], none⟩,
 ⟨none, .store 2 (.tmp 2) (.tmp 24), none⟩,
 ⟨some 3, .move (.tmp 25), none⟩])
 (.seq (.draw [(⟨some 26, .move (.tmp 1), none⟩, []),
 (⟨some 27, .loadN 2 (.tmp 2), none⟩, []),
 (⟨some 28, .build [.int .i64 0, .int .i64 0] [((0, 1), .const (.int .i64 1))], none⟩, []),
 (⟨some 29, .build [.int .i64 0, .int .i64 0, .int .i64 0, .string ⟨#[]⟩] [((0, 1), .const (.int .i64 3)), ((1, 2), .tmp 28), ((3, 1), .const (.string ⟨#[120]⟩))], none⟩, []),
 (⟨some 30, .buildSlice 1 [.int .i64 0, .int .i64 0, .int .i64 0, .string ⟨#[]⟩] [((0, 4), .tmp 29)], none⟩, []),
 (⟨some 32, .move (.tmp 1), none⟩, []),
 (⟨some 33, .loadN 2 (.tmp 2), none⟩, []),
 (⟨some 31, .call (F 278) [.tmp 26, .const (.int .i64 0), .tmp 27, .tmp 30], none⟩, [⟨some 33, .loadN 2 (.tmp 2), none⟩]),
 (⟨some 34, .call (F 278) [.tmp 32, .const (.int .i64 0), .tmp 33, .const (.slice none 0 0)], none⟩, []),
 (⟨some 4, .move (.tmp 31), none⟩, []),
 (⟨some 5, .move (.tmp 34), none⟩, [])])
 (.seq (.ops [⟨some 36, .move (.tmp 1), none⟩,
 ⟨some 37, .call (F 282) [.tmp 36, .const (.string ⟨#[121]⟩)], none⟩,
 ⟨some 35, .move (.tmp 37), none⟩,
 ⟨some 38, .extract (.tmp 35) 0, none⟩,
 ⟨some 39, .extract (.tmp 35) 1, none⟩,
 ⟨some 6, .alloc [.int .i64 0, .int .i64 0, .int .i64 0, .string ⟨#[]⟩], none⟩,
 ⟨none, .store 4 (.tmp 6) (.tmp 38), none⟩,
 ⟨some 7, .move (.tmp 39), none⟩])
 (.seq (.ops [⟨some 40, .move (.tmp 1), none⟩,
 ⟨some 41, .loadN 2 (.tmp 2), none⟩,
 ⟨some 42, .call (F 278) [.tmp 40, .const (.int .i64 2), .tmp 41, .const (.slice none 0 0)], none⟩,
 ⟨some 8, .move (.tmp 42), none⟩])
 (.seq (.ops [⟨some 43, .move (.tmp 1), none⟩,
 ⟨some 44, .call (F 281) [.tmp 43], none⟩,
 ⟨some 45, .move (.tmp 1), none⟩,
 ⟨some 46, .call (F 281) [.tmp 45], none⟩,
 ⟨some 9, .move (.tmp 44), none⟩,
 ⟨some 10, .move (.tmp 46), none⟩])
 (.seq (.ops [⟨some 48, .move (.tmp 1), none⟩,
 ⟨some 49, .call (F 282) [.tmp 48, .const (.string ⟨#[121]⟩)], none⟩,
 ⟨some 47, .move (.tmp 49), none⟩,
 ⟨some 50, .extract (.tmp 47) 0, none⟩,
 ⟨some 51, .extract (.tmp 47) 1, none⟩,
 ⟨some 11, .alloc [.int .i64 0, .int .i64 0, .int .i64 0, .string ⟨#[]⟩], none⟩,
 ⟨none, .store 4 (.tmp 11) (.tmp 50), none⟩,
 ⟨some 12, .move (.tmp 51), none⟩])
 (.seq (.draw [(⟨some 52, .loadN 2 (.tmp 2), none⟩, []),
 (⟨some 53, .build [.int .i64 0, .int .i64 0] [((0, 1), .const (.int .i64 5)), ((1, 1), .const (.int .i64 1))], none⟩, []),
 (⟨some 54, .eqv false [.i .i64, .i .i64] (.tmp 52) (.tmp 53), none⟩, []),
 (⟨some 55, .move (.tmp 54), none⟩, []),
 (⟨some 56, .move (.tmp 3), some (55, true)⟩, []),
 (⟨some 57, .bin .eql (.tmp 56) (.const (.int .i64 0)), some (55, true)⟩, []),
 (⟨some 58, .pick (.tmp 55) (.tmp 57) (.const (.bool false)), none⟩, []),
 (⟨some 59, .move (.tmp 58), none⟩, []),
 (⟨some 60, .move (.tmp 4), some (59, true)⟩, []),
 (⟨some 61, .un .not (.tmp 60), some (59, true)⟩, []),
 (⟨some 62, .pick (.tmp 59) (.tmp 61) (.const (.bool false)), none⟩, []),
 (⟨some 63, .move (.tmp 62), none⟩, []),
 (⟨some 64, .move (.tmp 5), some (63, true)⟩, []),
 (⟨some 65, .un .not (.tmp 64), some (63, true)⟩, []),
 (⟨some 66, .pick (.tmp 63) (.tmp 65) (.const (.bool false)), none⟩, []),
 (⟨some 67, .move (.tmp 66), none⟩, []),
 (⟨some 68, .move (.tmp 7), some (67, true)⟩, []),
 (⟨some 69, .bin .eql (.tmp 68) (.const (.int .i64 16)), some (67, true)⟩, []),
 (⟨some 70, .pick (.tmp 67) (.tmp 69) (.const (.bool false)), none⟩, []),
 (⟨some 71, .move (.tmp 70), none⟩, []),
 (⟨some 72, .move (.tmp 8), some (71, true)⟩, []),
 (⟨some 73, .pick (.tmp 71) (.tmp 72) (.const (.bool false)), none⟩, []),
 (⟨some 74, .move (.tmp 73), none⟩, []),
 (⟨some 75, .move (.tmp 1), some (74, true)⟩, []),
 (⟨some 76, .call (F 279) [.tmp 75], some (74, true)⟩, []),
 (⟨some 77, .pick (.tmp 74) (.tmp 76) (.const (.bool false)), none⟩, []),
 (⟨some 78, .move (.tmp 77), none⟩, []),
 (⟨some 79, .move (.tmp 9), some (78, true)⟩, []),
 (⟨some 80, .lenSl (.tmp 79), some (78, true)⟩, []),
 (⟨some 81, .bin .eql (.tmp 80) (.const (.int .i64 2)), some (78, true)⟩, []),
 (⟨some 82, .pick (.tmp 78) (.tmp 81) (.const (.bool false)), none⟩, []),
 (⟨some 83, .move (.tmp 82), none⟩, []),
 (⟨some 84, .move (.tmp 9), some (83, true)⟩, []),
 (⟨some 85, .idxSl 4 (.tmp 84) (.const (.int .i64 0)), some (83, true)⟩, []),
 (⟨some 86, .fieldAddr 3 (.tmp 85), some (83, true)⟩, []),
 (⟨some 87, .load1 (.tmp 86), some (83, true)⟩, []),
 (⟨some 88, .bin .eql (.tmp 87) (.const (.string ⟨#[]⟩)), some (83, true)⟩, []),
 (⟨some 89, .pick (.tmp 83) (.tmp 88) (.const (.bool false)), none⟩, []),
 (⟨some 90, .move (.tmp 89), none⟩, []),
 (⟨some 91, .move (.tmp 9), some (90, true)⟩, []),
 (⟨some 92, .idxSl 4 (.tmp 91) (.const (.int .i64 1)), some (90, true)⟩, []),
 (⟨some 93, .fieldAddr 3 (.tmp 92), some (90, true)⟩, []),
 (⟨some 94, .load1 (.tmp 93), some (90, true)⟩, []),
 (⟨some 95, .bin .eql (.tmp 94) (.const (.string ⟨#[120]⟩)), some (90, true)⟩, []),
 (⟨some 96, .pick (.tmp 90) (.tmp 95) (.const (.bool false)), none⟩, []),
 (⟨some 97, .move (.tmp 96), none⟩, []),
 (⟨some 98, .move (.tmp 9), some (97, true)⟩, []),
 (⟨some 99, .idxSl 4 (.tmp 98) (.const (.int .i64 1)), some (97, true)⟩, []),
 (⟨some 100, .fieldAddr 1 (.tmp 99), some (97, true)⟩, []),
 (⟨some 101, .loadN 2 (.tmp 100), some (97, true)⟩, []),
 (⟨some 102, .loadN 2 (.tmp 2), some (97, true)⟩, []),
 (⟨some 103, .eqv false [.i .i64, .i .i64] (.tmp 101) (.tmp 102), some (97, true)⟩, []),
 (⟨some 104, .pick (.tmp 97) (.tmp 103) (.const (.bool false)), none⟩, []),
 (⟨some 105, .move (.tmp 104), none⟩, []),
 (⟨some 106, .move (.tmp 10), some (105, true)⟩, []),
 (⟨some 107, .lenSl (.tmp 106), some (105, true)⟩, []),
 (⟨some 108, .bin .eql (.tmp 107) (.const (.int .i64 0)), some (105, true)⟩, []),
 (⟨some 109, .pick (.tmp 105) (.tmp 108) (.const (.bool false)), none⟩, []),
 (⟨some 110, .move (.tmp 109), none⟩, []),
 (⟨some 111, .fieldAddr 0 (.tmp 11), some (110, true)⟩, []),
 (⟨some 112, .load1 (.tmp 111), some (110, true)⟩, []),
 (⟨some 113, .bin .eql (.tmp 112) (.const (.int .i64 4)), some (110, true)⟩, []),
 (⟨some 114, .pick (.tmp 110) (.tmp 113) (.const (.bool false)), none⟩, []),
 (⟨some 115, .move (.tmp 114), none⟩, []),
 (⟨some 116, .move (.tmp 12), some (115, true)⟩, []),
 (⟨some 117, .bin .eql (.tmp 116) (.const (.int .i64 0)), some (115, true)⟩, []),
 (⟨some 118, .pick (.tmp 115) (.tmp 117) (.const (.bool false)), none⟩, []),
 (⟨some 119, .move (.tmp 118), none⟩, []),
 (⟨some 120, .move (.tmp 1), some (119, true)⟩, []),
 (⟨some 121, .build [.int .i64 0, .int .i64 0] [((0, 1), .const (.int .i64 6))], some (119, true)⟩, []),
 (⟨some 122, .call (F 283) [.tmp 120, .tmp 121], some (119, true)⟩, []),
 (⟨some 123, .pick (.tmp 119) (.tmp 122) (.const (.bool false)), none⟩, []),
 (⟨some 124, .move (.tmp 123), none⟩, []),
 (⟨some 125, .move (.tmp 1), some (124, true)⟩, []),
 (⟨some 126, .call (F 279) [.tmp 125], some (124, true)⟩, []),
 (⟨some 127, .un .not (.tmp 126), some (124, true)⟩, []),
 (⟨some 128, .pick (.tmp 124) (.tmp 127) (.const (.bool false)), none⟩, []),
 (⟨some 0, .move (.tmp 128), none⟩, [])])
 (.ret))))))))))⟩
/-- A context has these functions. -/
structure HasLaw19 (c : Ctx) : Prop where
 hurdlelaw19_ProposerSafe : c.IP (c.F 285) = some (c_hurdlelaw19_ProposerSafe c.F c.Ty)
 hurdlelaw19_ProposerNone : c.IP (c.F 286) = some (c_hurdlelaw19_ProposerNone c.F c.Ty)
 hurdlelaw19_awake : c.IP (c.F 287) = some (c_hurdlelaw19_awake c.F c.Ty)

end Go.Proofs.YtafnkmiggmfbdaaI
