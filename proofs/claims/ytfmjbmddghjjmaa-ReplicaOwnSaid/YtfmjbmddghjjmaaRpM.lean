/- PRINTED by gen.py (this session's own): the intermediate form of some functions, and a context's having them. / PRINTED by gen.py (this session's own): the intermediate form of some functions, and a context's having them. / A node alone: it takes what it says. / A node: what stays right; how much it says. / Texts, and votes, compared one by one. / A node: the chapter's example; one that is none. -/
import Derived.Test.YtfmjbmddghjjmaaRpE
import Derived.Test.YtfmjbmddghjjmaaRpJ
import Derived.Test.YtfmjbmddghjjmaaVotes
namespace Go.Proofs.YtfmjbmddghjjmaaI
set_option linter.unusedSimpArgs false
set_option linter.unusedVariables false
open Go

/-- hurdle/hurdleref16.Same -/
abbrev n_hurdleref16_Same : Nat := 197
/-- hurdle/hurdleref01.Texts -/
abbrev n_hurdleref01_Texts : Nat := 70
/-- hurdle/hurdleref16.Same -/
def c_hurdleref16_Same (F : Nat → FuncId) (Ty : Nat → TypeId) : IFunc := ⟨26, [.tmp 4],
 .seq (.ops [⟨some 4, .move (.const (.bool false)), none⟩])
 (.seq (.seq (.ops [⟨some 6, .move (.tmp 0), none⟩,
 ⟨some 7, .lenSl (.tmp 6), none⟩,
 ⟨some 8, .move (.tmp 1), none⟩,
 ⟨some 9, .lenSl (.tmp 8), none⟩,
 ⟨some 10, .bin .neq (.tmp 7) (.tmp 9), none⟩])
 (.cond (.tmp 10)
 (.seq (.ops [⟨some 4, .move (.const (.bool false)), none⟩])
 (.ret))
 (.skip)))
 (.seq (.seq (.ops [⟨some 5, .move (.const (.int .i64 0)), none⟩])
 (.block 0 (.loop (.seq (.seq (.ops [⟨some 11, .move (.tmp 5), none⟩,
 ⟨some 12, .move (.tmp 0), none⟩,
 ⟨some 13, .lenSl (.tmp 12), none⟩,
 ⟨some 14, .bin .lss (.tmp 11) (.tmp 13), none⟩])
 (.cond (.tmp 14)
 (.skip)
 (.exit 0)))
 (.seq (.block 1 (.seq (.draw [(⟨some 17, .move (.tmp 0), none⟩, []),
 (⟨some 18, .move (.tmp 5), none⟩, []),
 (⟨some 19, .idxSl 4 (.tmp 17) (.tmp 18), none⟩, []),
 (⟨some 20, .loadN 4 (.tmp 19), none⟩, []),
 (⟨some 21, .move (.tmp 1), none⟩, []),
 (⟨some 22, .move (.tmp 5), none⟩, []),
 (⟨some 23, .idxSl 4 (.tmp 21) (.tmp 22), none⟩, []),
 (⟨some 24, .loadN 4 (.tmp 23), none⟩, []),
 (⟨some 25, .eqv true [.i .i64, .i .i64, .i .i64, .s] (.tmp 20) (.tmp 24), none⟩, [])])
 (.cond (.tmp 25)
 (.seq (.ops [⟨some 4, .move (.const (.bool false)), none⟩])
 (.ret))
 (.skip))))
 (.ops [⟨some 15, .move (.tmp 5), none⟩,
 ⟨some 16, .bin .add (.tmp 15) (.const (.int .i64 1)), none⟩,
 ⟨some 5, .move (.tmp 16), none⟩]))))))
 (.seq (.ops [⟨some 4, .move (.const (.bool true)), none⟩])
 (.ret))))⟩
/-- hurdle/hurdleref01.Texts -/
def c_hurdleref01_Texts (F : Nat → FuncId) (Ty : Nat → TypeId) : IFunc := ⟨26, [.tmp 4],
 .seq (.ops [⟨some 4, .move (.const (.bool false)), none⟩])
 (.seq (.seq (.ops [⟨some 6, .move (.tmp 0), none⟩,
 ⟨some 7, .lenSl (.tmp 6), none⟩,
 ⟨some 8, .move (.tmp 1), none⟩,
 ⟨some 9, .lenSl (.tmp 8), none⟩,
 ⟨some 10, .bin .neq (.tmp 7) (.tmp 9), none⟩])
 (.cond (.tmp 10)
 (.seq (.ops [⟨some 4, .move (.const (.bool false)), none⟩])
 (.ret))
 (.skip)))
 (.seq (.seq (.ops [⟨some 5, .move (.const (.int .i64 0)), none⟩])
 (.block 0 (.loop (.seq (.seq (.ops [⟨some 11, .move (.tmp 5), none⟩,
 ⟨some 12, .move (.tmp 0), none⟩,
 ⟨some 13, .lenSl (.tmp 12), none⟩,
 ⟨some 14, .bin .lss (.tmp 11) (.tmp 13), none⟩])
 (.cond (.tmp 14)
 (.skip)
 (.exit 0)))
 (.seq (.block 1 (.seq (.draw [(⟨some 17, .move (.tmp 0), none⟩, []),
 (⟨some 18, .move (.tmp 5), none⟩, []),
 (⟨some 19, .idxSl 1 (.tmp 17) (.tmp 18), none⟩, []),
 (⟨some 20, .load1 (.tmp 19), none⟩, []),
 (⟨some 21, .move (.tmp 1), none⟩, []),
 (⟨some 22, .move (.tmp 5), none⟩, []),
 (⟨some 23, .idxSl 1 (.tmp 21) (.tmp 22), none⟩, []),
 (⟨some 24, .load1 (.tmp 23), none⟩, []),
 (⟨some 25, .bin .neq (.tmp 20) (.tmp 24), none⟩, [])])
 (.cond (.tmp 25)
 (.seq (.ops [⟨some 4, .move (.const (.bool false)), none⟩])
 (.ret))
 (.skip))))
 (.ops [⟨some 15, .move (.tmp 5), none⟩,
 ⟨some 16, .bin .add (.tmp 15) (.const (.int .i64 1)), none⟩,
 ⟨some 5, .move (.tmp 16), none⟩]))))))
 (.seq (.ops [⟨some 4, .move (.const (.bool true)), none⟩])
 (.ret))))⟩
/-- A context has these functions. -/
structure HasRef21 (c : Ctx) : Prop where
 hurdleref16_Same : c.IP (c.F 197) = some (c_hurdleref16_Same c.F c.Ty)
 hurdleref01_Texts : c.IP (c.F 70) = some (c_hurdleref01_Texts c.F c.Ty)

end Go.Proofs.YtfmjbmddghjjmaaI
namespace Go.Proofs.YtfmjbmddghjjmaaI
set_option linter.unusedSimpArgs false
set_option linter.unusedVariables false
open Go

/-- hurdle/hurdlelaw21.ReplicaKeeps -/
abbrev n_hurdlelaw21_ReplicaKeeps : Nat := 305
/-- hurdle/hurdlelaw21.ReplicaOwn -/
abbrev n_hurdlelaw21_ReplicaOwn : Nat := 306
/-- hurdle/hurdlelaw21.ReplicaNone -/
abbrev n_hurdlelaw21_ReplicaNone : Nat := 307
/-- hurdle/hurdlelaw21.awake -/
abbrev n_hurdlelaw21_awake : Nat := 308
/-- hurdle/hurdlelaw21.Few -/
abbrev n_hurdlelaw21_Few : Nat := 309
/-- hurdle/hurdlelaw21.settle -/
abbrev n_hurdlelaw21_settle : Nat := 310
/-- hurdle/hurdlelaw21.ReplicaKeeps -/
def c_hurdlelaw21_ReplicaKeeps (F : Nat → FuncId) (Ty : Nat → TypeId) : IFunc := ⟨107, [.tmp 6],
 .seq (.ops [⟨some 4, .box (.tmp 1), none⟩,
 ⟨some 5, .box (.tmp 2), none⟩,
 ⟨some 6, .move (.const (.bool false)), none⟩])
 (.seq (.seq (.ops [⟨some 10, .move (.tmp 0), none⟩,
 ⟨some 11, .call (F 18) [.tmp 10], none⟩,
 ⟨some 12, .bin .eql (.tmp 11) (.const (.int .i64 0)), none⟩,
 ⟨some 13, .move (.tmp 12), none⟩,
 ⟨some 14, .fieldAddr 1 (.tmp 4), some (13, false)⟩,
 ⟨some 15, .loadN 2 (.tmp 14), some (13, false)⟩,
 ⟨some 16, .call (F 15) [.tmp 15], some (13, false)⟩,
 ⟨some 17, .un .not (.tmp 16), some (13, false)⟩,
 ⟨some 18, .pick (.tmp 13) (.const (.bool true)) (.tmp 17), none⟩,
 ⟨some 19, .move (.tmp 18), none⟩,
 ⟨some 20, .loadN 2 (.tmp 5), some (19, false)⟩,
 ⟨some 21, .call (F 15) [.tmp 20], some (19, false)⟩,
 ⟨some 22, .un .not (.tmp 21), some (19, false)⟩,
 ⟨some 23, .pick (.tmp 19) (.const (.bool true)) (.tmp 22), none⟩,
 ⟨some 24, .move (.tmp 23), none⟩,
 ⟨some 25, .fieldAddr 0 (.tmp 4), some (24, false)⟩,
 ⟨some 26, .load1 (.tmp 25), some (24, false)⟩,
 ⟨some 27, .bin .lss (.tmp 26) (.const (.int .i64 0)), some (24, false)⟩,
 ⟨some 28, .pick (.tmp 24) (.const (.bool true)) (.tmp 27), none⟩,
 ⟨some 29, .move (.tmp 28), none⟩,
 ⟨some 30, .fieldAddr 0 (.tmp 4), some (29, false)⟩,
 ⟨some 31, .load1 (.tmp 30), some (29, false)⟩,
 ⟨some 32, .bin .geq (.tmp 31) (.const (.int .i64 1024)), some (29, false)⟩,
 ⟨some 33, .pick (.tmp 29) (.const (.bool true)) (.tmp 32), none⟩,
 ⟨some 34, .move (.tmp 33), none⟩,
 ⟨some 35, .fieldAddr 3 (.tmp 4), some (34, false)⟩,
 ⟨some 36, .load1 (.tmp 35), some (34, false)⟩,
 ⟨some 37, .strLen (.tmp 36), some (34, false)⟩,
 ⟨some 38, .bin .gtr (.tmp 37) (.const (.int .i64 4096)), some (34, false)⟩,
 ⟨some 39, .pick (.tmp 34) (.const (.bool true)) (.tmp 38), none⟩])
 (.cond (.tmp 39)
 (.seq (.ops [⟨some 40, .call (F 308) [], none⟩,
 ⟨some 6, .move (.tmp 40), none⟩])
 (.ret))
 (.skip)))
 (.seq (.ops [⟨some 41, .move (.tmp 0), none⟩,
 ⟨some 42, .call (F 288) [.tmp 41, .const (.int .i64 0)], none⟩,
 ⟨some 7, .move (.tmp 42), none⟩])
 (.seq (.ops [⟨some 43, .move (.tmp 7), none⟩,
 ⟨some 44, .loadN 4 (.tmp 4), none⟩,
 ⟨some 45, .buildSlice 1 [.int .i64 0, .int .i64 0, .int .i64 0, .string ⟨#[]⟩] [((0, 4), .tmp 44)], none⟩,
 ⟨some 46, .build [.int .i64 0, .int .i64 0, .int .i64 0, .int .i64 0, .int .i64 0, .int .i64 0, .slice none 0 0] [((0, 1), .const (.int .i64 3)), ((6, 1), .tmp 45)], none⟩,
 ⟨some 47, .call (F 289) [.tmp 43, .tmp 46], none⟩,
 ⟨some 8, .move (.tmp 47), none⟩])
 (.seq (.ops [⟨some 48, .move (.tmp 7), none⟩,
 ⟨some 49, .call (F 290) [.tmp 48], none⟩])
 (.seq (.ops [⟨some 50, .move (.tmp 7), none⟩,
 ⟨some 51, .loadN 2 (.tmp 5), none⟩,
 ⟨some 52, .build [.int .i64 0, .int .i64 0, .int .i64 0, .int .i64 0, .int .i64 0, .int .i64 0, .slice none 0 0] [((0, 1), .const (.int .i64 1)), ((4, 2), .tmp 51)], none⟩,
 ⟨some 53, .call (F 289) [.tmp 50, .tmp 52], none⟩,
 ⟨some 9, .move (.tmp 53), none⟩])
 (.seq (.seq (.ops [⟨some 54, .move (.tmp 8), none⟩,
 ⟨some 55, .lenSl (.tmp 54), none⟩,
 ⟨some 56, .move (.tmp 0), none⟩,
 ⟨some 57, .bin .neq (.tmp 55) (.tmp 56), none⟩,
 ⟨some 58, .move (.tmp 57), none⟩,
 ⟨some 59, .loadN 2 (.tmp 5), some (58, false)⟩,
 ⟨some 60, .fieldAddr 1 (.tmp 4), some (58, false)⟩,
 ⟨some 61, .loadN 2 (.tmp 60), some (58, false)⟩,
 ⟨some 62, .call (F 14) [.tmp 59, .tmp 61], some (58, false)⟩,
 ⟨some 63, .bin .lss (.tmp 62) (.const (.int .i64 0)), some (58, false)⟩,
 ⟨some 64, .pick (.tmp 58) (.const (.bool true)) (.tmp 63), none⟩])
 (.cond (.tmp 64)
 (.seq (.ops [⟨some 65, .move (.tmp 8), none⟩,
 ⟨some 66, .lenSl (.tmp 65), none⟩,
 ⟨some 67, .move (.tmp 0), none⟩,
 ⟨some 68, .bin .eql (.tmp 66) (.tmp 67), none⟩,
 ⟨some 69, .move (.tmp 68), none⟩,
 ⟨some 70, .move (.tmp 9), some (69, true)⟩,
 ⟨some 71, .lenSl (.tmp 70), some (69, true)⟩,
 ⟨some 72, .bin .eql (.tmp 71) (.const (.int .i64 0)), some (69, true)⟩,
 ⟨some 73, .pick (.tmp 69) (.tmp 72) (.const (.bool false)), none⟩,
 ⟨some 74, .move (.tmp 73), none⟩,
 ⟨some 75, .call (F 308) [], some (74, true)⟩,
 ⟨some 76, .pick (.tmp 74) (.tmp 75) (.const (.bool false)), none⟩,
 ⟨some 6, .move (.tmp 76), none⟩])
 (.ret))
 (.skip)))
 (.seq (.draw [(⟨some 77, .move (.tmp 9), none⟩, []),
 (⟨some 78, .lenSl (.tmp 77), none⟩, []),
 (⟨some 79, .bin .eql (.tmp 78) (.const (.int .i64 1)), none⟩, []),
 (⟨some 80, .move (.tmp 79), none⟩, []),
 (⟨some 81, .move (.tmp 9), some (80, true)⟩, []),
 (⟨some 82, .idxSl 7 (.tmp 81) (.const (.int .i64 0)), some (80, true)⟩, []),
 (⟨some 83, .fieldAddr 0 (.tmp 82), some (80, true)⟩, []),
 (⟨some 84, .load1 (.tmp 83), some (80, true)⟩, []),
 (⟨some 85, .bin .eql (.tmp 84) (.const (.int .i64 2)), some (80, true)⟩, []),
 (⟨some 86, .pick (.tmp 80) (.tmp 85) (.const (.bool false)), none⟩, []),
 (⟨some 87, .move (.tmp 86), none⟩, []),
 (⟨some 88, .move (.tmp 9), some (87, true)⟩, []),
 (⟨some 89, .idxSl 7 (.tmp 88) (.const (.int .i64 0)), some (87, true)⟩, []),
 (⟨some 90, .fieldAddr 4 (.tmp 89), some (87, true)⟩, []),
 (⟨some 91, .loadN 2 (.tmp 90), some (87, true)⟩, []),
 (⟨some 92, .loadN 2 (.tmp 5), some (87, true)⟩, []),
 (⟨some 93, .eqv false [.i .i64, .i .i64] (.tmp 91) (.tmp 92), some (87, true)⟩, []),
 (⟨some 94, .pick (.tmp 87) (.tmp 93) (.const (.bool false)), none⟩, []),
 (⟨some 95, .move (.tmp 94), none⟩, []),
 (⟨some 96, .move (.tmp 9), some (95, true)⟩, []),
 (⟨some 97, .idxSl 7 (.tmp 96) (.const (.int .i64 0)), some (95, true)⟩, []),
 (⟨some 98, .fieldAddr 6 (.tmp 97), some (95, true)⟩, []),
 (⟨some 99, .load1 (.tmp 98), some (95, true)⟩, []),
 (⟨some 100, .loadN 4 (.tmp 4), some (95, true)⟩, []),
 (⟨some 101, .buildSlice 1 [.int .i64 0, .int .i64 0, .int .i64 0, .string ⟨#[]⟩] [((0, 4), .tmp 100)], some (95, true)⟩, []),
 (⟨some 102, .call (F 197) [.tmp 99, .tmp 101], some (95, true)⟩, []),
 (⟨some 103, .pick (.tmp 95) (.tmp 102) (.const (.bool false)), none⟩, []),
 (⟨some 104, .move (.tmp 103), none⟩, []),
 (⟨some 105, .call (F 308) [], some (104, true)⟩, []),
 (⟨some 106, .pick (.tmp 104) (.tmp 105) (.const (.bool false)), none⟩, []),
 (⟨some 6, .move (.tmp 106), none⟩, [])])
 (.ret))))))))⟩
/-- hurdle/hurdlelaw21.ReplicaOwn -/
def c_hurdlelaw21_ReplicaOwn (F : Nat → FuncId) (Ty : Nat → TypeId) : IFunc := ⟨150, [.tmp 6],
 .seq (.ops [⟨some 6, .move (.const (.bool false)), none⟩])
 (.seq (.seq (.ops [⟨some 17, .move (.tmp 2), none⟩,
 ⟨some 18, .call (F 309) [.tmp 17], none⟩,
 ⟨some 19, .bin .eql (.tmp 18) (.const (.int .i64 0)), none⟩])
 (.cond (.tmp 19)
 (.seq (.ops [⟨some 20, .call (F 308) [], none⟩,
 ⟨some 6, .move (.tmp 20), none⟩])
 (.ret))
 (.skip)))
 (.seq (.ops [⟨some 21, .move (.tmp 0), none⟩,
 ⟨some 22, .move (.tmp 1), none⟩,
 ⟨some 23, .call (F 288) [.tmp 21, .tmp 22], none⟩,
 ⟨some 7, .move (.tmp 23), none⟩])
 (.seq (.seq (.ops [⟨some 24, .move (.tmp 7), none⟩,
 ⟨some 25, .eqNil 0 false (.tmp 24), none⟩])
 (.cond (.tmp 25)
 (.seq (.ops [⟨some 26, .call (F 308) [], none⟩,
 ⟨some 6, .move (.tmp 26), none⟩])
 (.ret))
 (.skip)))
 (.seq (.ops [⟨some 8, .move (.const (.slice none 0 0)), none⟩])
 (.seq (.seq (.ops [⟨some 9, .move (.const (.int .i64 0)), none⟩])
 (.block 0 (.loop (.seq (.seq (.ops [⟨some 27, .move (.tmp 9), none⟩,
 ⟨some 28, .move (.tmp 2), none⟩,
 ⟨some 29, .lenSl (.tmp 28), none⟩,
 ⟨some 30, .bin .lss (.tmp 27) (.tmp 29), none⟩])
 (.cond (.tmp 30)
 (.skip)
 (.exit 0)))
 (.seq (.block 1 (.seq (.ops [⟨some 10, .move (.const (.slice none 0 0)), none⟩])
 (.seq (.seq (.ops [⟨some 33, .move (.tmp 2), none⟩,
 ⟨some 34, .move (.tmp 9), none⟩,
 ⟨some 35, .idxSl 10 (.tmp 33) (.tmp 34), none⟩,
 ⟨some 36, .loadN 10 (.tmp 35), none⟩,
 ⟨some 11, .alloc [.int .i64 0, .int .i64 0, .string ⟨#[]⟩, .int .i64 0, .int .i64 0, .int .i64 0, .int .i64 0, .int .i64 0, .int .i64 0, .slice none 0 0], none⟩,
 ⟨none, .store 10 (.tmp 11) (.tmp 36), none⟩])
 (.seq (.ops [⟨some 37, .fieldAddr 0 (.tmp 11), none⟩,
 ⟨some 38, .load1 (.tmp 37), none⟩])
 (.block 2 (.seq (.ops [⟨some 40, .bin .eql (.tmp 38) (.const (.int .i64 0)), none⟩,
 ⟨some 39, .move (.tmp 40), none⟩])
 (.cond (.tmp 39)
 (.ops [⟨some 41, .move (.tmp 7), none⟩,
 ⟨some 42, .call (F 291) [.tmp 41], none⟩,
 ⟨some 10, .move (.tmp 42), none⟩])
 (.seq (.ops [⟨some 44, .bin .eql (.tmp 38) (.const (.int .i64 1)), none⟩,
 ⟨some 43, .move (.tmp 44), none⟩])
 (.cond (.tmp 43)
 (.seq (.ops [⟨some 46, .move (.tmp 7), none⟩,
 ⟨some 47, .fieldAddr 2 (.tmp 11), none⟩,
 ⟨some 48, .load1 (.tmp 47), none⟩,
 ⟨some 49, .call (F 292) [.tmp 46, .tmp 48], none⟩,
 ⟨some 45, .move (.tmp 49), none⟩,
 ⟨some 50, .extract (.tmp 45) 0, none⟩,
 ⟨some 51, .extract (.tmp 45) 1, none⟩,
 ⟨some 12, .move (.tmp 50), none⟩,
 ⟨some 13, .move (.tmp 51), none⟩])
 (.ops [⟨some 52, .move (.tmp 12), none⟩,
 ⟨some 10, .move (.tmp 52), none⟩]))
 (.seq (.ops [⟨some 54, .bin .eql (.tmp 38) (.const (.int .i64 2)), none⟩,
 ⟨some 53, .move (.tmp 54), none⟩])
 (.cond (.tmp 53)
 (.ops [⟨some 55, .move (.tmp 7), none⟩,
 ⟨some 56, .fieldAddr 3 (.tmp 11), none⟩,
 ⟨some 57, .loadN 7 (.tmp 56), none⟩,
 ⟨some 58, .call (F 289) [.tmp 55, .tmp 57], none⟩,
 ⟨some 10, .move (.tmp 58), none⟩])
 (.seq (.ops [⟨some 60, .bin .eql (.tmp 38) (.const (.int .i64 3)), none⟩,
 ⟨some 59, .move (.tmp 60), none⟩])
 (.cond (.tmp 59)
 (.ops [⟨some 61, .move (.tmp 7), none⟩,
 ⟨some 62, .fieldAddr 1 (.tmp 11), none⟩,
 ⟨some 63, .load1 (.tmp 62), none⟩,
 ⟨some 64, .call (F 293) [.tmp 61, .tmp 63], none⟩,
 ⟨some 10, .move (.tmp 64), none⟩])
 (.skip))))))))))))
 (.seq (.ops [⟨some 14, .move (.const (.int .i64 0)), none⟩])
 (.block 3 (.loop (.seq (.seq (.ops [⟨some 65, .move (.tmp 14), none⟩,
 ⟨some 66, .move (.tmp 10), none⟩,
 ⟨some 67, .lenSl (.tmp 66), none⟩,
 ⟨some 68, .bin .lss (.tmp 65) (.tmp 67), none⟩])
 (.cond (.tmp 68)
 (.skip)
 (.exit 3)))
 (.seq (.block 4 (.seq (.ops [⟨some 71, .move (.tmp 10), none⟩,
 ⟨some 72, .move (.tmp 14), none⟩,
 ⟨some 73, .idxSl 7 (.tmp 71) (.tmp 72), none⟩,
 ⟨some 74, .loadN 7 (.tmp 73), none⟩,
 ⟨some 15, .alloc [.int .i64 0, .int .i64 0, .int .i64 0, .int .i64 0, .int .i64 0, .int .i64 0, .slice none 0 0], none⟩,
 ⟨none, .store 7 (.tmp 15) (.tmp 74), none⟩])
 (.seq (.seq (.ops [⟨some 75, .fieldAddr 1 (.tmp 15), none⟩,
 ⟨some 76, .load1 (.tmp 75), none⟩,
 ⟨some 77, .move (.tmp 1), none⟩,
 ⟨some 78, .bin .neq (.tmp 76) (.tmp 77), none⟩,
 ⟨some 79, .move (.tmp 78), none⟩,
 ⟨some 80, .fieldAddr 2 (.tmp 15), some (79, false)⟩,
 ⟨some 81, .load1 (.tmp 80), some (79, false)⟩,
 ⟨some 82, .bin .lss (.tmp 81) (.const (.int .i64 0)), some (79, false)⟩,
 ⟨some 83, .pick (.tmp 79) (.const (.bool true)) (.tmp 82), none⟩,
 ⟨some 84, .move (.tmp 83), none⟩,
 ⟨some 85, .fieldAddr 2 (.tmp 15), some (84, false)⟩,
 ⟨some 86, .load1 (.tmp 85), some (84, false)⟩,
 ⟨some 87, .move (.tmp 0), some (84, false)⟩,
 ⟨some 88, .bin .geq (.tmp 86) (.tmp 87), some (84, false)⟩,
 ⟨some 89, .pick (.tmp 84) (.const (.bool true)) (.tmp 88), none⟩,
 ⟨some 90, .move (.tmp 89), none⟩,
 ⟨some 91, .fieldAddr 0 (.tmp 15), some (90, false)⟩,
 ⟨some 92, .load1 (.tmp 91), some (90, false)⟩,
 ⟨some 93, .bin .lss (.tmp 92) (.const (.int .i64 1)), some (90, false)⟩,
 ⟨some 94, .pick (.tmp 90) (.const (.bool true)) (.tmp 93), none⟩,
 ⟨some 95, .move (.tmp 94), none⟩,
 ⟨some 96, .fieldAddr 0 (.tmp 15), some (95, false)⟩,
 ⟨some 97, .load1 (.tmp 96), some (95, false)⟩,
 ⟨some 98, .bin .gtr (.tmp 97) (.const (.int .i64 6)), some (95, false)⟩,
 ⟨some 99, .pick (.tmp 95) (.const (.bool true)) (.tmp 98), none⟩])
 (.cond (.tmp 99)
 (.seq (.ops [⟨some 6, .move (.const (.bool false)), none⟩])
 (.ret))
 (.skip)))
 (.seq (.seq (.ops [⟨some 100, .fieldAddr 0 (.tmp 15), none⟩,
 ⟨some 101, .load1 (.tmp 100), none⟩,
 ⟨some 102, .bin .neq (.tmp 101) (.const (.int .i64 3)), none⟩,
 ⟨some 103, .move (.tmp 102), none⟩,
 ⟨some 104, .fieldAddr 2 (.tmp 15), some (103, false)⟩,
 ⟨some 105, .load1 (.tmp 104), some (103, false)⟩,
 ⟨some 106, .bin .neq (.tmp 105) (.const (.int .i64 0)), some (103, false)⟩,
 ⟨some 107, .pick (.tmp 103) (.const (.bool true)) (.tmp 106), none⟩])
 (.cond (.tmp 107)
 (.exit 4)
 (.skip)))
 (.seq (.seq (.ops [⟨some 108, .fieldAddr 6 (.tmp 15), none⟩,
 ⟨some 109, .load1 (.tmp 108), none⟩,
 ⟨some 110, .lenSl (.tmp 109), none⟩,
 ⟨some 111, .bin .neq (.tmp 110) (.const (.int .i64 1)), none⟩])
 (.cond (.tmp 111)
 (.seq (.ops [⟨some 6, .move (.const (.bool false)), none⟩])
 (.ret))
 (.skip)))
 (.seq (.seq (.ops [⟨some 16, .move (.const (.int .i64 0)), none⟩])
 (.block 5 (.loop (.seq (.seq (.ops [⟨some 112, .move (.tmp 16), none⟩,
 ⟨some 113, .move (.tmp 8), none⟩,
 ⟨some 114, .lenSl (.tmp 113), none⟩,
 ⟨some 115, .bin .lss (.tmp 112) (.tmp 114), none⟩])
 (.cond (.tmp 115)
 (.skip)
 (.exit 5)))
 (.seq (.block 6 (.seq (.draw [(⟨some 118, .move (.tmp 8), none⟩, []),
 (⟨some 119, .move (.tmp 16), none⟩, []),
 (⟨some 120, .idxSl 4 (.tmp 118) (.tmp 119), none⟩, []),
 (⟨some 121, .fieldAddr 0 (.tmp 120), none⟩, []),
 (⟨some 122, .load1 (.tmp 121), none⟩, []),
 (⟨some 123, .fieldAddr 6 (.tmp 15), none⟩, []),
 (⟨some 124, .load1 (.tmp 123), none⟩, []),
 (⟨some 125, .idxSl 4 (.tmp 124) (.const (.int .i64 0)), none⟩, []),
 (⟨some 126, .fieldAddr 0 (.tmp 125), none⟩, []),
 (⟨some 127, .load1 (.tmp 126), none⟩, []),
 (⟨some 128, .bin .eql (.tmp 122) (.tmp 127), none⟩, []),
 (⟨some 129, .move (.tmp 128), none⟩, []),
 (⟨some 130, .move (.tmp 8), some (129, true)⟩, []),
 (⟨some 131, .move (.tmp 16), some (129, true)⟩, []),
 (⟨some 132, .idxSl 4 (.tmp 130) (.tmp 131), some (129, true)⟩, []),
 (⟨some 133, .fieldAddr 1 (.tmp 132), some (129, true)⟩, []),
 (⟨some 134, .loadN 2 (.tmp 133), some (129, true)⟩, []),
 (⟨some 135, .fieldAddr 6 (.tmp 15), some (129, true)⟩, []),
 (⟨some 136, .load1 (.tmp 135), some (129, true)⟩, []),
 (⟨some 137, .idxSl 4 (.tmp 136) (.const (.int .i64 0)), some (129, true)⟩, []),
 (⟨some 138, .fieldAddr 1 (.tmp 137), some (129, true)⟩, []),
 (⟨some 139, .loadN 2 (.tmp 138), some (129, true)⟩, []),
 (⟨some 140, .eqv false [.i .i64, .i .i64] (.tmp 134) (.tmp 139), some (129, true)⟩, []),
 (⟨some 141, .pick (.tmp 129) (.tmp 140) (.const (.bool false)), none⟩, [])])
 (.cond (.tmp 141)
 (.seq (.ops [⟨some 6, .move (.const (.bool false)), none⟩])
 (.ret))
 (.skip))))
 (.ops [⟨some 116, .move (.tmp 16), none⟩,
 ⟨some 117, .bin .add (.tmp 116) (.const (.int .i64 1)), none⟩,
 ⟨some 16, .move (.tmp 117), none⟩]))))))
 (.ops [⟨some 142, .move (.tmp 8), none⟩,
 ⟨some 143, .fieldAddr 6 (.tmp 15), none⟩,
 ⟨some 144, .load1 (.tmp 143), none⟩,
 ⟨some 145, .idxSl 4 (.tmp 144) (.const (.int .i64 0)), none⟩,
 ⟨some 146, .loadN 4 (.tmp 145), none⟩,
 ⟨some 147, .buildSlice 1 [.int .i64 0, .int .i64 0, .int .i64 0, .string ⟨#[]⟩] [((0, 4), .tmp 146)], none⟩,
 ⟨some 148, .append 4 40 (.tmp 142) (.tmp 147), none⟩,
 ⟨some 8, .move (.tmp 148), none⟩])))))))
 (.ops [⟨some 69, .move (.tmp 14), none⟩,
 ⟨some 70, .bin .add (.tmp 69) (.const (.int .i64 1)), none⟩,
 ⟨some 14, .move (.tmp 70), none⟩])))))))))
 (.ops [⟨some 31, .move (.tmp 9), none⟩,
 ⟨some 32, .bin .add (.tmp 31) (.const (.int .i64 1)), none⟩,
 ⟨some 9, .move (.tmp 32), none⟩]))))))
 (.seq (.ops [⟨some 149, .call (F 308) [], none⟩,
 ⟨some 6, .move (.tmp 149), none⟩])
 (.ret)))))))⟩
/-- hurdle/hurdlelaw21.ReplicaNone -/
def c_hurdlelaw21_ReplicaNone (F : Nat → FuncId) (Ty : Nat → TypeId) : IFunc := ⟨70, [.tmp 2],
 .seq (.ops [⟨some 1, .box (.tmp 0), none⟩,
 ⟨some 2, .move (.const (.bool false)), none⟩])
 (.seq (.ops [⟨some 3, .move (.const (.pointer none)), none⟩])
 (.seq (.ops [⟨some 6, .move (.tmp 3), none⟩,
 ⟨some 7, .call (F 290) [.tmp 6], none⟩])
 (.seq (.ops [⟨some 9, .move (.tmp 3), none⟩,
 ⟨some 10, .fieldAddr 2 (.tmp 1), none⟩,
 ⟨some 11, .load1 (.tmp 10), none⟩,
 ⟨some 12, .call (F 292) [.tmp 9, .tmp 11], none⟩,
 ⟨some 8, .move (.tmp 12), none⟩,
 ⟨some 13, .extract (.tmp 8) 0, none⟩,
 ⟨some 14, .extract (.tmp 8) 1, none⟩,
 ⟨some 4, .move (.tmp 13), none⟩,
 ⟨some 5, .move (.tmp 14), none⟩])
 (.seq (.ops [⟨some 15, .move (.tmp 3), none⟩,
 ⟨some 16, .call (F 291) [.tmp 15], none⟩,
 ⟨some 17, .lenSl (.tmp 16), none⟩,
 ⟨some 18, .bin .eql (.tmp 17) (.const (.int .i64 0)), none⟩,
 ⟨some 19, .move (.tmp 18), none⟩,
 ⟨some 20, .move (.tmp 4), some (19, true)⟩,
 ⟨some 21, .lenSl (.tmp 20), some (19, true)⟩,
 ⟨some 22, .bin .eql (.tmp 21) (.const (.int .i64 0)), some (19, true)⟩,
 ⟨some 23, .pick (.tmp 19) (.tmp 22) (.const (.bool false)), none⟩,
 ⟨some 24, .move (.tmp 23), none⟩,
 ⟨some 25, .move (.tmp 5), some (24, true)⟩,
 ⟨some 26, .bin .eql (.tmp 25) (.const (.int .i64 1)), some (24, true)⟩,
 ⟨some 27, .pick (.tmp 24) (.tmp 26) (.const (.bool false)), none⟩,
 ⟨some 28, .move (.tmp 27), none⟩,
 ⟨some 29, .move (.tmp 3), some (28, true)⟩,
 ⟨some 30, .fieldAddr 3 (.tmp 1), some (28, true)⟩,
 ⟨some 31, .loadN 7 (.tmp 30), some (28, true)⟩,
 ⟨some 32, .call (F 289) [.tmp 29, .tmp 31], some (28, true)⟩,
 ⟨some 33, .lenSl (.tmp 32), some (28, true)⟩,
 ⟨some 34, .bin .eql (.tmp 33) (.const (.int .i64 0)), some (28, true)⟩,
 ⟨some 35, .pick (.tmp 28) (.tmp 34) (.const (.bool false)), none⟩,
 ⟨some 36, .move (.tmp 35), none⟩,
 ⟨some 37, .move (.tmp 3), some (36, true)⟩,
 ⟨some 38, .fieldAddr 1 (.tmp 1), some (36, true)⟩,
 ⟨some 39, .load1 (.tmp 38), some (36, true)⟩,
 ⟨some 40, .call (F 293) [.tmp 37, .tmp 39], some (36, true)⟩,
 ⟨some 41, .lenSl (.tmp 40), some (36, true)⟩,
 ⟨some 42, .bin .eql (.tmp 41) (.const (.int .i64 0)), some (36, true)⟩,
 ⟨some 43, .pick (.tmp 36) (.tmp 42) (.const (.bool false)), none⟩,
 ⟨some 44, .move (.tmp 43), none⟩,
 ⟨some 45, .move (.tmp 3), some (44, true)⟩,
 ⟨some 46, .fieldAddr 1 (.tmp 1), some (44, true)⟩,
 ⟨some 47, .load1 (.tmp 46), some (44, true)⟩,
 ⟨some 48, .call (F 294) [.tmp 45, .tmp 47], some (44, true)⟩,
 ⟨some 49, .bin .eql (.tmp 48) (.const (.int .i64 0)), some (44, true)⟩,
 ⟨some 50, .pick (.tmp 44) (.tmp 49) (.const (.bool false)), none⟩,
 ⟨some 51, .move (.tmp 50), none⟩,
 ⟨some 52, .move (.tmp 3), some (51, true)⟩,
 ⟨some 53, .call (F 295) [.tmp 52], some (51, true)⟩,
 ⟨some 54, .lenSl (.tmp 53), some (51, true)⟩,
 ⟨some 55, .bin .eql (.tmp 54) (.const (.int .i64 0)), some (51, true)⟩,
 ⟨some 56, .pick (.tmp 51) (.tmp 55) (.const (.bool false)), none⟩,
 ⟨some 57, .move (.tmp 56), none⟩,
 ⟨some 58, .move (.tmp 3), some (57, true)⟩,
 ⟨some 59, .call (F 296) [.tmp 58], some (57, true)⟩,
 ⟨some 60, .bin .eql (.tmp 59) (.const (.int .i64 0)), some (57, true)⟩,
 ⟨some 61, .pick (.tmp 57) (.tmp 60) (.const (.bool false)), none⟩,
 ⟨some 62, .move (.tmp 61), none⟩,
 ⟨some 63, .move (.tmp 3), some (62, true)⟩,
 ⟨some 64, .call (F 297) [.tmp 63], some (62, true)⟩,
 ⟨some 65, .un .not (.tmp 64), some (62, true)⟩,
 ⟨some 66, .pick (.tmp 62) (.tmp 65) (.const (.bool false)), none⟩,
 ⟨some 67, .move (.tmp 66), none⟩,
 ⟨some 68, .call (F 308) [], some (67, true)⟩,
 ⟨some 69, .pick (.tmp 67) (.tmp 68) (.const (.bool false)), none⟩,
 ⟨some 2, .move (.tmp 69), none⟩])
 (.ret)))))⟩
/-- hurdle/hurdlelaw21.awake -/
def c_hurdlelaw21_awake (F : Nat → FuncId) (Ty : Nat → TypeId) : IFunc := ⟨75, [.tmp 0],
 .seq (.ops [⟨some 0, .move (.const (.bool false)), none⟩])
 (.seq (.ops [⟨some 9, .call (F 288) [.const (.int .i64 1), .const (.int .i64 0)], none⟩,
 ⟨some 1, .move (.tmp 9), none⟩])
 (.seq (.seq (.ops [⟨some 10, .move (.tmp 1), none⟩,
 ⟨some 11, .eqNil 0 false (.tmp 10), none⟩,
 ⟨some 12, .move (.tmp 11), none⟩,
 ⟨some 13, .call (F 288) [.const (.int .i64 3), .const (.int .i64 3)], some (12, false)⟩,
 ⟨some 14, .eqNil 0 true (.tmp 13), some (12, false)⟩,
 ⟨some 15, .pick (.tmp 12) (.const (.bool true)) (.tmp 14), none⟩])
 (.cond (.tmp 15)
 (.seq (.ops [⟨some 0, .move (.const (.bool false)), none⟩])
 (.ret))
 (.skip)))
 (.seq (.ops [⟨some 17, .move (.tmp 1), none⟩,
 ⟨some 18, .call (F 292) [.tmp 17, .const (.string ⟨#[120]⟩)], none⟩,
 ⟨some 16, .move (.tmp 18), none⟩,
 ⟨some 19, .extract (.tmp 16) 0, none⟩,
 ⟨some 20, .extract (.tmp 16) 1, none⟩,
 ⟨some 2, .move (.tmp 19), none⟩,
 ⟨some 3, .move (.tmp 20), none⟩])
 (.seq (.ops [⟨some 21, .move (.tmp 1), none⟩,
 ⟨some 22, .move (.tmp 1), none⟩,
 ⟨some 23, .call (F 291) [.tmp 22], none⟩,
 ⟨some 24, .call (F 310) [.tmp 21, .tmp 23], none⟩])
 (.seq (.ops [⟨some 26, .move (.tmp 1), none⟩,
 ⟨some 27, .call (F 292) [.tmp 26, .const (.string ⟨#[120]⟩)], none⟩,
 ⟨some 25, .move (.tmp 27), none⟩,
 ⟨some 28, .extract (.tmp 25) 0, none⟩,
 ⟨some 29, .extract (.tmp 25) 1, none⟩,
 ⟨some 4, .move (.tmp 28), none⟩,
 ⟨some 5, .move (.tmp 29), none⟩])
 (.seq (.ops [⟨some 30, .move (.tmp 1), none⟩,
 ⟨some 31, .move (.tmp 4), none⟩,
 ⟨some 32, .call (F 310) [.tmp 30, .tmp 31], none⟩])
 (.seq (.ops [⟨some 33, .move (.tmp 1), none⟩,
 ⟨some 34, .call (F 295) [.tmp 33], none⟩,
 ⟨some 35, .move (.tmp 1), none⟩,
 ⟨some 36, .call (F 297) [.tmp 35], none⟩,
 ⟨some 6, .move (.tmp 34), none⟩,
 ⟨some 7, .move (.tmp 36), none⟩])
 (.seq (.ops [⟨some 37, .move (.tmp 1), none⟩,
 ⟨some 38, .call (F 290) [.tmp 37], none⟩])
 (.seq (.ops [⟨some 39, .move (.tmp 1), none⟩,
 ⟨some 40, .call (F 295) [.tmp 39], none⟩,
 ⟨some 8, .move (.tmp 40), none⟩])
 (.seq (.ops [⟨some 41, .move (.tmp 1), none⟩,
 ⟨some 42, .move (.tmp 1), none⟩,
 ⟨some 43, .call (F 291) [.tmp 42], none⟩,
 ⟨some 44, .call (F 310) [.tmp 41, .tmp 43], none⟩])
 (.seq (.ops [⟨some 45, .move (.tmp 3), none⟩,
 ⟨some 46, .bin .eql (.tmp 45) (.const (.int .i64 16)), none⟩,
 ⟨some 47, .move (.tmp 46), none⟩,
 ⟨some 48, .move (.tmp 5), some (47, true)⟩,
 ⟨some 49, .bin .eql (.tmp 48) (.const (.int .i64 0)), some (47, true)⟩,
 ⟨some 50, .pick (.tmp 47) (.tmp 49) (.const (.bool false)), none⟩,
 ⟨some 51, .move (.tmp 50), none⟩,
 ⟨some 52, .move (.tmp 6), some (51, true)⟩,
 ⟨some 53, .buildSlice 1 [.string ⟨#[]⟩] [((0, 1), .const (.string ⟨#[120]⟩))], some (51, true)⟩,
 ⟨some 54, .call (F 70) [.tmp 52, .tmp 53], some (51, true)⟩,
 ⟨some 55, .pick (.tmp 51) (.tmp 54) (.const (.bool false)), none⟩,
 ⟨some 56, .move (.tmp 55), none⟩,
 ⟨some 57, .move (.tmp 7), some (56, true)⟩,
 ⟨some 58, .pick (.tmp 56) (.tmp 57) (.const (.bool false)), none⟩,
 ⟨some 59, .move (.tmp 58), none⟩,
 ⟨some 60, .move (.tmp 8), some (59, true)⟩,
 ⟨some 61, .lenSl (.tmp 60), some (59, true)⟩,
 ⟨some 62, .bin .eql (.tmp 61) (.const (.int .i64 0)), some (59, true)⟩,
 ⟨some 63, .pick (.tmp 59) (.tmp 62) (.const (.bool false)), none⟩,
 ⟨some 64, .move (.tmp 63), none⟩,
 ⟨some 65, .move (.tmp 1), some (64, true)⟩,
 ⟨some 66, .call (F 295) [.tmp 65], some (64, true)⟩,
 ⟨some 67, .buildSlice 1 [.string ⟨#[]⟩] [((0, 1), .const (.string ⟨#[120]⟩))], some (64, true)⟩,
 ⟨some 68, .call (F 70) [.tmp 66, .tmp 67], some (64, true)⟩,
 ⟨some 69, .pick (.tmp 64) (.tmp 68) (.const (.bool false)), none⟩,
 ⟨some 70, .move (.tmp 69), none⟩,
 ⟨some 71, .move (.tmp 1), some (70, true)⟩,
 ⟨some 72, .call (F 296) [.tmp 71], some (70, true)⟩,
 ⟨some 73, .bin .eql (.tmp 72) (.const (.int .i64 1)), some (70, true)⟩,
 ⟨some 74, .pick (.tmp 70) (.tmp 73) (.const (.bool false)), none⟩,
 ⟨some 0, .move (.tmp 74), none⟩])
 (.ret))))))))))))⟩
/-- hurdle/hurdlelaw21.Few -/
def c_hurdlelaw21_Few (F : Nat → FuncId) (Ty : Nat → TypeId) : IFunc := ⟨80, [.tmp 2],
 .seq (.ops [⟨some 2, .move (.const (.int .i64 0)), none⟩])
 (.seq (.seq (.ops [⟨some 5, .move (.tmp 0), none⟩,
 ⟨some 6, .lenSl (.tmp 5), none⟩,
 ⟨some 7, .bin .gtr (.tmp 6) (.const (.int .i64 60)), none⟩])
 (.cond (.tmp 7)
 (.seq (.ops [⟨some 2, .move (.const (.int .i64 0)), none⟩])
 (.ret))
 (.skip)))
 (.seq (.seq (.ops [⟨some 3, .move (.const (.int .i64 0)), none⟩])
 (.block 0 (.loop (.seq (.seq (.ops [⟨some 8, .move (.tmp 3), none⟩,
 ⟨some 9, .move (.tmp 0), none⟩,
 ⟨some 10, .lenSl (.tmp 9), none⟩,
 ⟨some 11, .bin .lss (.tmp 8) (.tmp 10), none⟩])
 (.cond (.tmp 11)
 (.skip)
 (.exit 0)))
 (.seq (.block 1 (.seq (.seq (.ops [⟨some 14, .move (.tmp 0), none⟩,
 ⟨some 15, .move (.tmp 3), none⟩,
 ⟨some 16, .idxSl 10 (.tmp 14) (.tmp 15), none⟩,
 ⟨some 17, .fieldAddr 2 (.tmp 16), none⟩,
 ⟨some 18, .load1 (.tmp 17), none⟩,
 ⟨some 19, .strLen (.tmp 18), none⟩,
 ⟨some 20, .bin .gtr (.tmp 19) (.const (.int .i64 5000)), none⟩,
 ⟨some 21, .move (.tmp 20), none⟩,
 ⟨some 22, .move (.tmp 0), some (21, false)⟩,
 ⟨some 23, .move (.tmp 3), some (21, false)⟩,
 ⟨some 24, .idxSl 10 (.tmp 22) (.tmp 23), some (21, false)⟩,
 ⟨some 25, .fieldAddr 3 (.tmp 24), some (21, false)⟩,
 ⟨some 26, .fieldAddr 6 (.tmp 25), some (21, false)⟩,
 ⟨some 27, .load1 (.tmp 26), some (21, false)⟩,
 ⟨some 28, .lenSl (.tmp 27), some (21, false)⟩,
 ⟨some 29, .bin .gtr (.tmp 28) (.const (.int .i64 10)), some (21, false)⟩,
 ⟨some 30, .pick (.tmp 21) (.const (.bool true)) (.tmp 29), none⟩])
 (.cond (.tmp 30)
 (.seq (.ops [⟨some 2, .move (.const (.int .i64 0)), none⟩])
 (.ret))
 (.skip)))
 (.seq (.ops [⟨some 4, .move (.const (.int .i64 0)), none⟩])
 (.block 2 (.loop (.seq (.seq (.ops [⟨some 31, .move (.tmp 4), none⟩,
 ⟨some 32, .move (.tmp 0), none⟩,
 ⟨some 33, .move (.tmp 3), none⟩,
 ⟨some 34, .idxSl 10 (.tmp 32) (.tmp 33), none⟩,
 ⟨some 35, .fieldAddr 3 (.tmp 34), none⟩,
 ⟨some 36, .fieldAddr 6 (.tmp 35), none⟩,
 ⟨some 37, .load1 (.tmp 36), none⟩,
 ⟨some 38, .lenSl (.tmp 37), none⟩,
 ⟨some 39, .bin .lss (.tmp 31) (.tmp 38), none⟩])
 (.cond (.tmp 39)
 (.skip)
 (.exit 2)))
 (.seq (.block 3 (.seq (.ops [⟨some 42, .move (.tmp 0), none⟩,
 ⟨some 43, .move (.tmp 3), none⟩,
 ⟨some 44, .idxSl 10 (.tmp 42) (.tmp 43), none⟩,
 ⟨some 45, .fieldAddr 3 (.tmp 44), none⟩,
 ⟨some 46, .fieldAddr 6 (.tmp 45), none⟩,
 ⟨some 47, .load1 (.tmp 46), none⟩,
 ⟨some 48, .move (.tmp 4), none⟩,
 ⟨some 49, .idxSl 4 (.tmp 47) (.tmp 48), none⟩,
 ⟨some 50, .fieldAddr 3 (.tmp 49), none⟩,
 ⟨some 51, .load1 (.tmp 50), none⟩,
 ⟨some 52, .strLen (.tmp 51), none⟩,
 ⟨some 53, .bin .gtr (.tmp 52) (.const (.int .i64 5000)), none⟩,
 ⟨some 54, .move (.tmp 53), none⟩,
 ⟨some 55, .move (.tmp 0), some (54, false)⟩,
 ⟨some 56, .move (.tmp 3), some (54, false)⟩,
 ⟨some 57, .idxSl 10 (.tmp 55) (.tmp 56), some (54, false)⟩,
 ⟨some 58, .fieldAddr 3 (.tmp 57), some (54, false)⟩,
 ⟨some 59, .fieldAddr 6 (.tmp 58), some (54, false)⟩,
 ⟨some 60, .load1 (.tmp 59), some (54, false)⟩,
 ⟨some 61, .move (.tmp 4), some (54, false)⟩,
 ⟨some 62, .idxSl 4 (.tmp 60) (.tmp 61), some (54, false)⟩,
 ⟨some 63, .fieldAddr 0 (.tmp 62), some (54, false)⟩,
 ⟨some 64, .load1 (.tmp 63), some (54, false)⟩,
 ⟨some 65, .bin .gtr (.tmp 64) (.const (.int .i64 30)), some (54, false)⟩,
 ⟨some 66, .move (.tmp 65), some (54, false)⟩,
 ⟨some 67, .move (.tmp 0), some (66, true)⟩,
 ⟨some 68, .move (.tmp 3), some (66, true)⟩,
 ⟨some 69, .idxSl 10 (.tmp 67) (.tmp 68), some (66, true)⟩,
 ⟨some 70, .fieldAddr 3 (.tmp 69), some (66, true)⟩,
 ⟨some 71, .fieldAddr 6 (.tmp 70), some (66, true)⟩,
 ⟨some 72, .load1 (.tmp 71), some (66, true)⟩,
 ⟨some 73, .move (.tmp 4), some (66, true)⟩,
 ⟨some 74, .idxSl 4 (.tmp 72) (.tmp 73), some (66, true)⟩,
 ⟨some 75, .fieldAddr 0 (.tmp 74), some (66, true)⟩,
 ⟨some 76, .load1 (.tmp 75), some (66, true)⟩,
 ⟨some 77, .bin .lss (.tmp 76) (.const (.int .i64 1024)), some (66, true)⟩,
 ⟨some 78, .pick (.tmp 66) (.tmp 77) (.const (.bool false)), some (54, false)⟩,
 ⟨some 79, .pick (.tmp 54) (.const (.bool true)) (.tmp 78), none⟩])
 (.cond (.tmp 79)
 (.seq (.ops [⟨some 2, .move (.const (.int .i64 0)), none⟩])
 (.ret))
 (.skip))))
 (.ops [⟨some 40, .move (.tmp 4), none⟩,
 ⟨some 41, .bin .add (.tmp 40) (.const (.int .i64 1)), none⟩,
 ⟨some 4, .move (.tmp 41), none⟩]))))))))
 (.ops [⟨some 12, .move (.tmp 3), none⟩,
 ⟨some 13, .bin .add (.tmp 12) (.const (.int .i64 1)), none⟩,
 ⟨some 3, .move (.tmp 13), none⟩]))))))
 (.seq (.ops [⟨some 2, .move (.const (.int .i64 1)), none⟩])
 (.ret))))⟩
/-- hurdle/hurdlelaw21.settle -/
def c_hurdlelaw21_settle (F : Nat → FuncId) (Ty : Nat → TypeId) : IFunc := ⟨23, [],
 .seq (.ops [⟨some 4, .move (.const (.int .i64 0)), none⟩])
 (.block 0 (.loop (.seq (.seq (.ops [⟨some 5, .move (.tmp 4), none⟩,
 ⟨some 6, .move (.tmp 1), none⟩,
 ⟨some 7, .lenSl (.tmp 6), none⟩,
 ⟨some 8, .bin .lss (.tmp 5) (.tmp 7), none⟩,
 ⟨some 9, .move (.tmp 8), none⟩,
 ⟨some 10, .move (.tmp 4), some (9, true)⟩,
 ⟨some 11, .bin .lss (.tmp 10) (.const (.int .i64 50)), some (9, true)⟩,
 ⟨some 12, .pick (.tmp 9) (.tmp 11) (.const (.bool false)), none⟩])
 (.cond (.tmp 12)
 (.skip)
 (.exit 0)))
 (.seq (.block 1 (.ops [⟨some 15, .move (.tmp 1), none⟩,
 ⟨some 16, .move (.tmp 0), none⟩,
 ⟨some 17, .move (.tmp 1), none⟩,
 ⟨some 18, .move (.tmp 4), none⟩,
 ⟨some 19, .idxSl 7 (.tmp 17) (.tmp 18), none⟩,
 ⟨some 20, .loadN 7 (.tmp 19), none⟩,
 ⟨some 21, .call (F 289) [.tmp 16, .tmp 20], none⟩,
 ⟨some 22, .append 7 72 (.tmp 15) (.tmp 21), none⟩,
 ⟨some 1, .move (.tmp 22), none⟩]))
 (.ops [⟨some 13, .move (.tmp 4), none⟩,
 ⟨some 14, .bin .add (.tmp 13) (.const (.int .i64 1)), none⟩,
 ⟨some 4, .move (.tmp 14), none⟩])))))⟩
/-- A context has these functions. -/
structure HasLaw21 (c : Ctx) : Prop where
 hurdlelaw21_ReplicaKeeps : c.IP (c.F 305) = some (c_hurdlelaw21_ReplicaKeeps c.F c.Ty)
 hurdlelaw21_ReplicaOwn : c.IP (c.F 306) = some (c_hurdlelaw21_ReplicaOwn c.F c.Ty)
 hurdlelaw21_ReplicaNone : c.IP (c.F 307) = some (c_hurdlelaw21_ReplicaNone c.F c.Ty)
 hurdlelaw21_awake : c.IP (c.F 308) = some (c_hurdlelaw21_awake c.F c.Ty)
 hurdlelaw21_Few : c.IP (c.F 309) = some (c_hurdlelaw21_Few c.F c.Ty)
 hurdlelaw21_settle : c.IP (c.F 310) = some (c_hurdlelaw21_settle c.F c.Ty)

end Go.Proofs.YtfmjbmddghjjmaaI
namespace Go.Proofs.YtfmjbmddghjjmaaI
set_option linter.unusedSimpArgs false
set_option linter.unusedVariables false
open Go

def isStr : Value → Bool
  | .string _ => true
  | _ => false
theorem votes_off {D : Nat → Prop} {H : IHeap} {w : Value} {l : List VoteD} {b : Nat} {cs : List Value} {ro : Bool} (h : SwD D H 4 w (l.map rowV)) (hg : H.get b = some (.cells cs ro)) (hs : cs.all (fun x => !isStr x) = true) : SwD (fun x => D x ∧ x ≠ b) H 4 w (l.map rowV) := by
  refine ⟨⟨h.1.1, fun b' o n c e hr => ⟨h.1.2 b' o n c e hr, ?_⟩⟩, h.2⟩
  rintro rfl
  obtain ⟨a, cap, e2, h2⟩ := h.1.1
  obtain ⟨b2, o2, cs2, ro2, rfl, hb2, hg2, hrow⟩ := h2 hr
  rw [e] at e2
  simp only [Value.slice.injEq, Option.some.injEq, Addr.mk.injEq] at e2
  obtain ⟨⟨rfl, -⟩, -⟩ := e2
  rw [hg] at hg2
  simp only [Option.some.injEq, IObj.cells.injEq] at hg2
  obtain ⟨rfl, rfl⟩ := hg2
  cases l with
  | nil => exact hr rfl
  | cons v l =>
    have := (hrow 0 (rowV v) (by simp)).2.1
    have h3 := row_at this 3 (by omega)
    simp only [rowV, List.getElem?_cons_succ, List.getElem?_cons_zero] at h3
    have hm := List.mem_of_getElem? h3
    have := List.all_eq_true.1 hs _ hm
    simp [isStr] at this
theorem zip_nostr {D : Nat → Prop} {H : IHeap} {l : List NoteD} {us : List Value} (h1 : us.length = l.length) (h : ∀ (i : Nat) (x : NoteD) (u : Value), l[i]? = some x → us[i]? = some u → SwD D H 4 u (x.votes.map rowV)) : (List.zipWith rowN l us).flatten.all (fun x => !isStr x) = true := by
  rw [List.all_eq_true]
  intro y hy
  obtain ⟨r, hr, hy⟩ := List.mem_flatten.1 hy
  obtain ⟨j, hj⟩ := List.getElem?_of_mem hr
  rw [List.getElem?_zipWith] at hj
  split at hj
  · rename_i a b ha hb
    injection hj with hj; subst hj
    obtain ⟨ua, uc, hu⟩ := (h j a b ha hb).2.len
    simp only [rowN, List.mem_cons, List.not_mem_nil, or_false] at hy
    rcases hy with rfl | rfl | rfl | rfl | rfl | rfl | rfl <;> first | rfl | (rw [hu]; rfl)
  · cases hj

/-- More notes. -/
theorem NtsD.append {D D2 : Nat → Prop} {H : IHeap} {v u : Value} {l m : List NoteD} (h : NtsD D H v l) (k : NtsD D2 H u m) (hl : (l.length + m.length) * 72 ≤ 140737488355328) :
    ∃ v' H' news, firstI H 7 m.length u = some news ∧ appendI H 7 72 v m.length news = some (v', H') ∧ NtsD (fun b => D b ∨ D2 b ∨ (H.next ≤ b ∧ b < H'.next)) H' v' (l ++ m) ∧ Fr D H H' := by
  obtain ⟨us, h1, h2, h3, h4⟩ := h
  obtain ⟨ws, k1, k2, k3, _⟩ := k
  have hzl := zip_len h1
  have hzm := zip_len k1
  have hone : ∀ w ∈ ws, one1 w = true := by
    intro w hw
    obtain ⟨j, hj⟩ := List.getElem?_of_mem hw
    have hjl := (List.getElem?_eq_some_iff.1 hj).1
    exact (k3 j m[j] w (List.getElem?_eq_getElem (by omega)) hj).2.one
  have hf := k2.2.first (by omega)
  rw [hzm] at hf
  -- the end of it
  have fin : ∀ (v' : Value) (H' : IHeap) (S : Nat → Prop), appendI H 7 72 v m.length (List.zipWith rowN m ws).flatten = some (v', H') → Fr S H H' → (∀ b, S b → D b) → SwD (fun b => D b ∨ D2 b ∨ (H.next ≤ b ∧ b < H'.next)) H' 7 v' (List.zipWith rowN l us ++ List.zipWith rowN m ws) →
      BufD H' 7 v' (List.zipWith rowN l us ++ List.zipWith rowN m ws) → (∀ (x : NoteD) (w : Value) (E : Nat → Prop), SwD E H 4 w (x.votes.map rowV) → SwD (fun b => E b ∧ ¬ S b) H 4 w (x.votes.map rowV)) →
      ∃ v' H' news, firstI H 7 m.length u = some news ∧ appendI H 7 72 v m.length news = some (v', H') ∧ NtsD (fun b => D b ∨ D2 b ∨ (H.next ≤ b ∧ b < H'.next)) H' v' (l ++ m) ∧ Fr D H H' := by
    intro v' H' S e1 e2 e3 e4 e5 e6
    refine ⟨v', H', _, hf, e1, ⟨us ++ ws, by simp [h1, k1], ?_, ?_, ?_⟩, e2.weak e3⟩
    · rw [List.zipWith_append h1.symm]; exact e4
    · intro i x w a b
      by_cases hi : i < l.length
      · rw [List.getElem?_append_left hi] at a
        rw [List.getElem?_append_left (by omega)] at b
        exact ((e6 x w D (h3 i x w a b)).fr e2 fun b hb => hb.2).weak fun b hb => .inl hb.1
      · rw [List.getElem?_append_right (by omega)] at a
        rw [List.getElem?_append_right (by omega), h1] at b
        exact ((e6 x w D2 (k3 _ x w a b)).fr e2 fun b hb => hb.2).weak fun b hb => .inr (.inl hb.1)
    · rw [List.zipWith_append h1.symm]; exact e5
  by_cases hmz : m = []
  · subst hmz
    have hwz : ws = [] := List.length_eq_zero_iff.1 k1
    subst hwz
    refine fin v H (fun _ => False) ?_ (Fr.refl _ _) (fun _ h => h.elim) ?_ (by simpa using h4) (fun x w E hw => hw.weak fun b hb => ⟨hb, fun h => h⟩)
    · obtain ⟨a, cap, e, e2, e3⟩ := h2.2.2
      subst e
      rw [hzl] at e3 ⊢
      have hc : l.length ≤ cap := by rcases e3 with ⟨_, e3⟩ | ⟨e3, _⟩; exact e3; rw [e3]; unfold UNK; omega
      have hl1 : l.length * 72 ≤ 140737488355328 := by simpa using hl
      have hl2 : l.length ≤ 140737488355328 := by omega
      show appendI H 7 72 (.slice a l.length cap) 0 [] = _
      simp [appendI, hl1, hl2, hc]
    · simp only [List.zipWith_nil_left, List.append_nil]
      exact h2.weak fun b hb => .inl hb
  · have hmr : List.zipWith rowN m ws ≠ [] := fun hz => hmz (List.length_eq_zero_iff.1 (by rw [← hzm, hz]; rfl))
    rcases h4 with ⟨e1, rfl⟩ | ⟨hne, ht | ⟨b, hg⟩⟩
    · have hlz : l = [] := List.length_eq_zero_iff.1 (by rw [← hzl, e1]; rfl)
      subst hlz
      obtain ⟨v', H', o', q1, q2, q3, q4⟩ := GrowAt.append (o := none) (bytes := 72) (new := List.zipWith rowN m ws) (show GrowAt none H 7 (.slice none 0 0) [] from ⟨rfl, rfl⟩) (by omega) (by omega) (by rw [hzm]; simpa using hl) (by rw [hzm]; simp at hl ⊢; omega) (zip_seven m ws) (zip_one hone)
      rw [hzm] at q1
      rcases q4 with ⟨_, q4⟩ | ⟨z, q4, q5, _⟩
      · exact absurd q4 hmr
      · subst q4
        have hgw := (q2.grow (N := H.next) (fun b hb => by injection hb with hb; omega)).swD
        refine fin v' H' (fun _ => False) q1 (q3.weak fun b hb => by cases hb) (fun _ h => h.elim) (hgw.weak fun b hb => .inr (.inr hb)) (.inr ⟨by simpa using hmr, .inr ⟨z, q2⟩⟩) (fun x w E hw => hw.weak fun b hb => ⟨hb, fun h => h⟩)
    · have hps : 0 < (List.zipWith rowN m ws).length := List.length_pos_iff.2 hmr
      obtain ⟨r7, blk, o, cs, ro, t1, t2, rfl, t4, t5, t6⟩ := ht
      have hall : ∀ r ∈ List.zipWith rowN l us ++ List.zipWith rowN m ws, r.length = 7 := fun r hr => by rcases List.mem_append.1 hr with h | h; exact r7 r h; exact zip_seven m ws r h
      have hH' : GrowAt (some H.next) (H.alloc (.cells ((List.zipWith rowN l us).flatten ++ (List.zipWith rowN m ws).flatten) false)) 7 (.slice (some ⟨H.next, 0, none⟩) (l.length + m.length) (UNK + 7)) (List.zipWith rowN l us ++ List.zipWith rowN m ws) :=
        ⟨by rw [YX]; omega, hall, by rw [List.length_append, hzl, hzm], by rw [YV, if_pos rfl]; simp⟩
      refine fin (.slice (some ⟨H.next, 0, none⟩) (l.length + m.length) (UNK + 7)) (H.alloc (.cells ((List.zipWith rowN l us).flatten ++ (List.zipWith rowN m ws).flatten) false)) (fun _ => False) ?_ ((H.le_alloc _).fr _) (fun _ h => h.elim)
        ((hH'.grow (N := H.next) (fun b hb => by injection hb with hb; omega)).swD.weak fun b hb => .inr (.inr hb)) (.inr ⟨by simp [hne], .inr ⟨_, hH'⟩⟩) (fun x w E hw => hw.weak fun b hb => ⟨hb, fun h => h⟩)
      have hf2 : firstI H 7 (List.zipWith rowN l us).length (.slice (some ⟨blk, o, none⟩) (List.zipWith rowN l us).length (List.zipWith rowN l us).length) = some (List.zipWith rowN l us).flatten := by
        simp only [firstI, IHeap.loadL, t4]
        by_cases hz : (List.zipWith rowN l us).length * 7 = 0
        · rw [if_pos hz]
          have : (List.zipWith rowN l us).length = 0 := by omega
          simp [List.length_eq_zero_iff.1 this]
        · rw [if_neg hz, if_pos t6, t5]
      have hfl := flat_len _ 7 (zip_seven m ws)
      rw [hzl] at hf2 ⊢
      rw [hzm] at hps hfl
      simp only [appendI]
      rw [if_pos ⟨hl, by omega, by omega, by omega, hfl⟩, if_neg (by omega), if_neg (fun h => by have := h.2; omega)]
      rw [hzl] at t2
      simp only [hf2, t2, if_true]
    · obtain ⟨v', H', o', q1, q2, q3, q4⟩ := hg.append (bytes := 72) (new := List.zipWith rowN m ws) (by omega) (by omega) (by rw [hzl, hzm]; exact hl) (by rw [hzl, hzm]; omega) (zip_seven m ws) (zip_one hone)
      rw [hzm] at q1
      rcases q4 with ⟨_, q4⟩ | ⟨z, q4, q5, _⟩
      · exact absurd q4 hmr
      · subst q4
        have hDb : D b := h2.1.2 b 0 _ _ hg.2.2.1 hne
        refine fin v' H' (fun x => x = b) q1 (q3.weak fun x hx => by injection hx with hx; exact hx.symm) (fun x hx => hx ▸ hDb) (((q2.grow (N := H.next) (fun b hb => by injection hb with hb; omega)).swD).weak fun b hb => .inr (.inr hb)) (.inr ⟨by simp [hne], .inr ⟨z, q2⟩⟩) (fun x w E hw => votes_off hw hg.2.2.2 (zip_nostr h1 h3))
end Go.Proofs.YtfmjbmddghjjmaaI
namespace Go.Proofs.YtfmjbmddghjjmaaI
set_option linter.unusedSimpArgs false
set_option linter.unusedVariables false
open Go

theorem IsR.sorted {B : Nat → Prop} {H : IHeap} {p : Nat} {R : Rp} (h : IsR B H p R) : Sorted R.A.L := by obtain ⟨_, _, _, _, _, _, h, _⟩ := h; exact h.a.sorted
theorem IsR.lok {B : Nat → Prop} {H : IHeap} {p : Nat} {R : Rp} (h : IsR B H p R) : R.L.ok := by obtain ⟨_, _, _, _, _, _, h, _⟩ := h; exact h.l.ok
theorem tell_n (L : Lr) (s : Int) (v : ByteArray) : (L.tell s v).n = L.n := rfl
theorem hear_n (L : Lr) (fr : Int) (v : VoteD) : (L.hear fr v).1.n = L.n := by
  unfold Lr.hear
  split
  · split <;> rfl
  · rfl
theorem tells_n : ∀ (l : List VoteD) (L : Lr), (tells L l).n = L.n
  | [], _ => rfl
  | v :: l, L => by
    have := tells_n l (if mayB L v.slot v.val = true then L.tell v.slot v.val else L)
    unfold tells at this ⊢
    rw [List.foldl_cons, this]
    split <;> rfl
theorem lead_n (P : Pro) (a n fr : Int) : (P.lead a n fr).1.n = P.n ∧ (P.lead a n fr).1.me = P.me := by
  unfold Pro.lead
  split
  · exact ⟨rfl, rfl⟩
  · split <;> exact ⟨rfl, rfl⟩
theorem propose_n (P : Pro) (s : ByteArray) : (P.propose s).1.n = P.n ∧ (P.propose s).1.me = P.me := by
  unfold Pro.propose
  (repeat' split) <;> exact ⟨rfl, rfl⟩

theorem Rp.ok.prepare {R : Rp} (h : R.ok) (x : NoteD) : (R.prepare x).1.ok ∧ (R.prepare x).1.n = R.n ∧ (R.prepare x).1.me = R.me := by
  have hs := step_n R.P x.ba x.bn
  have h1 : (R.P.step x.ba x.bn).1.ok := h.1.step x.ba x.bn
  have h5 := acc_promise_ok h.2.2.2.2 x.ba x.bn x.slot
  unfold Rp.prepare
  split
  · exact ⟨⟨h1, hs.1.trans h.2.1, hs.2.trans h.2.2.1, h.2.2.2.1, h.2.2.2.2⟩, rfl, rfl⟩
  · split <;> exact ⟨⟨h1, hs.1.trans h.2.1, hs.2.trans h.2.2.1, h.2.2.2.1, h5⟩, rfl, rfl⟩
theorem Rp.ok.promise {R : Rp} (h : R.ok) (x : NoteD) : (R.promise x).1.ok ∧ (R.promise x).1.n = R.n ∧ (R.promise x).1.me = R.me := by
  have hs := promise_n R.P x.fr x.ba x.bn x.votes
  have h1 := h.1.promise x.fr x.ba x.bn x.votes
  unfold Rp.promise
  split
  · exact ⟨⟨h1, hs.1.trans h.2.1, hs.2.trans h.2.2.1, h.2.2.2⟩, rfl, rfl⟩
  · split <;> exact ⟨⟨h1, hs.1.trans h.2.1, hs.2.trans h.2.2.1, h.2.2.2⟩, rfl, rfl⟩
theorem Rp.ok.accept {R : Rp} (h : R.ok) (v : VoteD) : (R.accept v).1.ok ∧ (R.accept v).1.n = R.n ∧ (R.accept v).1.me = R.me := by
  have hs := step_n R.P v.a v.n
  exact ⟨⟨h.1.step v.a v.n, hs.1.trans h.2.1, hs.2.trans h.2.2.1, h.2.2.2.1, acc_ok h.2.2.2.2 v⟩, rfl, rfl⟩
theorem Rp.ok.take {R : Rp} (h : R.ok) (x : NoteD) : (R.take x).1.ok ∧ (R.take x).1.n = R.n ∧ (R.take x).1.me = R.me := by
  unfold Rp.take
  split
  · exact ⟨h, rfl, rfl⟩
  split
  · exact h.prepare x
  split
  · exact h.promise x
  split
  · exact h.accept _
  split
  · exact ⟨⟨h.1, h.2.1, h.2.2.1, (hear_n _ _ _).trans h.2.2.2.1, h.2.2.2.2⟩, rfl, rfl⟩
  split
  · exact ⟨h, rfl, rfl⟩
  split
  · exact ⟨⟨h.1, h.2.1, h.2.2.1, (tells_n _ _).trans h.2.2.2.1, h.2.2.2.2⟩, rfl, rfl⟩
  · exact ⟨h, rfl, rfl⟩
theorem Rp.ok.lead {R : Rp} (h : R.ok) : R.lead.1.ok ∧ R.lead.1.n = R.n ∧ R.lead.1.me = R.me := by
  have hs := lead_n R.P R.A.pa R.A.pn (nextL R.L)
  have h1 := h.1.lead R.A.pa R.A.pn (nextL R.L)
  unfold Rp.lead
  split
  · exact ⟨h, rfl, rfl⟩
  · exact ⟨⟨h1, hs.1.trans h.2.1, hs.2.trans h.2.2.1, h.2.2.2.1, acc_promise_ok h.2.2.2.2 _ _ _⟩, rfl, rfl⟩
theorem Rp.ok.propose {R : Rp} (h : R.ok) (s : ByteArray) : (R.propose s).1.ok ∧ (R.propose s).1.n = R.n ∧ (R.propose s).1.me = R.me := by
  have hs := propose_n R.P s
  have h1 := h.1.propose s
  unfold Rp.propose
  split
  · exact ⟨h, rfl, rfl⟩
  · exact ⟨⟨h1, hs.1.trans h.2.1, hs.2.trans h.2.2.1, h.2.2.2⟩, rfl, rfl⟩
theorem tellE_n : ∀ (k : Nat) (L : Lr), (tellE L k).n = L.n
  | 0, _ => rfl
  | k + 1, L => by
    simp only [tellE]
    split
    · exact tellE_n k L
    · exact tellE_n k L
theorem Rp.ok.crash {R : Rp} (h : R.ok) : R.crash.ok ∧ R.crash.n = R.n ∧ R.crash.me = R.me := by
  have h1 := h.1
  refine ⟨⟨ok_new ?_ ?_ ?_, rfl, rfl, tellE_n _ _, h.2.2.2.2⟩, rfl, rfl⟩
  · rw [← h.2.1]; exact h1.1
  · rw [← h.2.2.1]; exact h1.2.1
  · rw [← h.2.2.1, ← h.2.1]; exact h1.2.2.1

/-! ### how much -/
theorem allN_len (R : Rp) (h : R.ok) (x : NoteD) : (allN R x).length ≤ 7 := by
  have h1 := quorumI_ne h.1.1
  have h2 := h.2.1
  unfold allN
  rw [List.length_map, List.length_range]
  omega
theorem allN_mem {R : Rp} {x y : NoteD} (h : y ∈ allN R x) : ∃ i : Nat, (i : Int) < R.n ∧ y = { x with fr := R.me, to := (i : Int) } := by
  unfold allN at h
  obtain ⟨i, hi, rfl⟩ := List.mem_map.1 h
  have := List.mem_range.1 hi
  exact ⟨i, by omega, rfl⟩
theorem flat_all_len (R : Rp) (h : R.ok) (l : List VoteD) (k : Int) : (l.flatMap fun v => allN R (voteN k v)).length ≤ 7 * l.length := by
  induction l with
  | nil => exact Nat.le_refl _
  | cons v l ih => rw [List.flatMap_cons, List.length_append, List.length_cons]; have := allN_len R h (voteN k v); omega
theorem fill_len {P : Pro} (h : P.ok) : (P.fill (endP P)).length ≤ 1024 := by
  unfold Pro.fill
  rw [filledL_len]
  have z := endP_bd h
  obtain ⟨_, _, _, z4, z5, z6, _, _⟩ := h
  omega
/-- What it says at once is not too much. -/
def Short (l : List NoteD) : Prop := l.length ≤ 7168 ∧ ∀ y ∈ l, y.votes.length ≤ 1024
theorem short_nil : Short [] := ⟨by simp, by simp⟩
theorem short_all {R : Rp} (h : R.ok) {x : NoteD} (hx : x.votes.length ≤ 1024) : Short (allN R x) := by
  refine ⟨by have := allN_len R h x; omega, fun y hy => ?_⟩
  obtain ⟨i, _, rfl⟩ := allN_mem hy
  exact hx
theorem logL_len {L : Lr} (h : L.ok) (u : Int) : (logL L u).length ≤ 1024 := by
  unfold logL
  rw [List.length_map, List.length_range]
  have h1 := (nextL_ok h).2.1
  have h2 := h.2.2.1
  split <;> omega
theorem short_take {R : Rp} (h : R.ok) (hs : Sorted R.A.L) (x : NoteD) : Short (R.take x).2 := by
  unfold Rp.take
  split
  · exact short_nil
  split
  · unfold Rp.prepare
    split
    · exact short_nil
    split
    · exact short_nil
    · refine ⟨by simp, fun y hy => ?_⟩
      simp only [List.mem_singleton] at hy
      subst hy
      have h1 := acc_len h.2.2.2.2 hs
      show (R.A.promise x.ba x.bn x.slot).2.1.length ≤ 1024
      unfold Acc.promise
      split
      · simp
      · exact Nat.le_trans (List.length_filter_le _ _) h1
  split
  · unfold Rp.promise
    split
    · exact short_nil
    split
    · exact short_nil
    · have hp := h.1.promise x.fr x.ba x.bn x.votes
      have h1 := fill_len hp
      have h2 := flat_all_len R h ((R.P.promise x.fr x.ba x.bn x.votes).1.fill (endP (R.P.promise x.fr x.ba x.bn x.votes).1)) 3
      refine ⟨by show (List.flatMap _ _).length ≤ _; omega, fun y hy => ?_⟩
      obtain ⟨v, _, hy⟩ := List.mem_flatMap.1 hy
      exact (short_all h (x := voteN 3 v) (by simp [voteN])).2 y hy
  split
  · unfold Rp.accept
    split
    · exact short_all h (by simp [voteN])
    · exact short_nil
  split
  · exact short_nil
  split
  · unfold Rp.tell
    split
    · exact short_nil
    split
    · exact short_nil
    · refine ⟨by simp, fun y hy => ?_⟩
      simp only [List.mem_singleton] at hy
      subst hy
      show (tellN R x).length ≤ 1024
      unfold tellN
      rw [votesFrom_len, List.length_take]
      omega
  split <;> exact short_nil
theorem short_lead {R : Rp} (h : R.ok) : Short R.lead.2 := by
  unfold Rp.lead
  split
  · exact short_nil
  · exact short_all h (by simp [prepN])
theorem short_propose {R : Rp} (h : R.ok) (s : ByteArray) : Short (R.propose s).2.1 := by
  unfold Rp.propose
  split
  · exact short_nil
  · exact short_all h (by simp [voteN])
theorem short_ask (R : Rp) (i : Int) : Short (R.ask i) := by
  unfold Rp.ask
  split
  · exact ⟨by simp, fun y hy => by simp only [List.mem_singleton] at hy; subst hy; exact Nat.zero_le _⟩
  · exact short_nil

def settleR : Nat → Rp → List NoteD → Nat → Rp
  | 0, R, _, _ => R
  | f + 1, R, l, i => match l[i]? with
    | none => R
    | some x => settleR f (R.take x).1 (l ++ (R.take x).2) (i + 1)

def SetI (B D : Nat → Prop) (H : IHeap) (p : Nat) (G : Rp) (i : Nat) (v : Value) (H' : IHeap) : Prop :=
  ∃ (R' : Rp) (l' : List NoteD) (B' D' : Nat → Prop), Fr (fun b => B b ∨ D b) H H' ∧ (∀ b, B' b → B b ∨ H.next ≤ b) ∧ (∀ b, D' b → D b ∨ H.next ≤ b) ∧
    IsR B' H' p R' ∧ R'.ok ∧ NtsD D' H' v l' ∧ (∀ b, D' b → ¬ B' b ∧ b < H'.next) ∧ l'.length ≤ 7168 * (i + 1) ∧ (∀ y ∈ l', y.votes.length ≤ 1024) ∧ settleR (50 - i) R' l' i = G

section
variable (c : Ctx) (hc : NodeC c) (hL : HasLaw21 c) {H : IHeap} {K : Value → IHeap → Prop} {B : Nat → Prop} {p : Nat} {R : Rp}

include hc hL in
theorem settle_ok {l : List NoteD} {u : Value} {D : Nat → Prop} (h : IsR B H p R) (ho : R.ok) (hu : NtsD D H u l) (hD : ∀ b, D b → ¬ B b ∧ b < H.next) (hsh : Short l)
    (hK : ∀ H' B', Fr (fun b => B b ∨ D b) H H' → (∀ b, B' b → B b ∨ H.next ≤ b) → IsR B' H' p (settleR 50 R l 0) → (settleR 50 R l 0).ok → K (.tuple #[]) H') :
    c.C (c.F n_hurdlelaw21_settle) [.pointer (some ⟨p, 0, none⟩), u] H K := by
  refine c.enter hL.hurdlelaw21_settle rfl ?_
  obtain ⟨G, hG⟩ : ∃ G, G = settleR 50 R l 0 := ⟨_, rfl⟩
  rw [← hG] at hK
  simp -implicitDefEqProofs [J0,J1,J2,J3,J4,J5,J6,J7,J8,J9,Ja,Jb,Jc,Jd,Je,Jf,Jg,Jh,Ji,Jj,Jk,Jl,Jm,Jn,Jo,Jp,Jq,Jr,Js,Jt,Ju,Jv,Jw,Jx,Jy,Jz,JA,JB,JC,JD,JE,JF,JG,JH,JI,JJ,JK,JL,JM,JN,JO,JP,JQ,JR,JS,stillI,IOp.kind,JT,JU,JV,JW,JX,JY,JZ,Y0,Y1,Y2,Y3,Y4,Y5,Y6,Y7,Y8,Y9,Ya,Yb,Yc,Yd,Ye,Yf,Yg,Yh,Yi,Yj,Yk,Yl,Ym,Yn,Yo,Yp,Yq,ial,Yr,Ys,Yt,Yu,Yv,Yw,Yx,Yy,ires,iresL,ires1,Yz,YA,YB,YC,YD,YE,bin2,YF,YG,YH,YI,YJ,YK,YL,YM,YN,YO,YP,YQ,YR,YS,YT,YU,un1,shOk,eqL,eq1,fillL,putAt,IHeap.load1,IHeap.loadL,IHeap.storeL,YV,YW,YX,YY,YZ,B0,B1,B2,B3,B4,B5,B6,B7,B8,B9,Ba,Bb,Bc,Bd,Be,Bf,Bg,Bh,Bi,Bj,Bk,Bl,Bm,Bn,Bo,Bp, c_hurdlelaw21_settle]
  refine loop_nat c.mono (fun k T H' => ∃ i : Nat, i ≤ 50 ∧ k = 50 - i ∧ T 0 = .pointer (some ⟨p, 0, none⟩) ∧ T 4 = .int .i64 i ∧ SetI B D H p G i (T 1) H') 50 ?_ ?_
  · refine ⟨0, by omega, rfl, ?_⟩
    simp -implicitDefEqProofs [J0,J1,J2,J3,J4,J5,J6,J7,J8,J9,Ja,Jb,Jc,Jd,Je,Jf,Jg,Jh,Ji,Jj,Jk,Jl,Jm,Jn,Jo,Jp,Jq,Jr,Js,Jt,Ju,Jv,Jw,Jx,Jy,Jz,JA,JB,JC,JD,JE,JF,JG,JH,JI,JJ,JK,JL,JM,JN,JO,JP,JQ,JR,JS,stillI,IOp.kind,JT,JU,JV,JW,JX,JY,JZ,Y0,Y1,Y2,Y3,Y4,Y5,Y6,Y7,Y8,Y9,Ya,Yb,Yc,Yd,Ye,Yf,Yg,Yh,Yi,Yj,Yk,Yl,Ym,Yn,Yo,Yp,Yq,ial,Yr,Ys,Yt,Yu,Yv,Yw,Yx,Yy,ires,iresL,ires1,Yz,YA,YB,YC,YD,YE,bin2,YF,YG,YH,YI,YJ,YK,YL,YM,YN,YO,YP,YQ,YR,YS,YT,YU,un1,shOk,eqL,eq1,fillL,putAt,IHeap.load1,IHeap.loadL,IHeap.storeL,YV,YW,YX,YY,YZ,B0,B1,B2,B3,B4,B5,B6,B7,B8,B9,Ba,Bb,Bc,Bd,Be,Bf,Bg,Bh,Bi,Bj,Bk,Bl,Bm,Bn,Bo,Bp]
    exact ⟨R, l, B, D, Fr.refl _ _, fun b hb => .inl hb, fun b hb => .inl hb, h, ho, hu, hD, by have := hsh.1; omega, hsh.2, hG.symm⟩
  · rintro k T H' ⟨i, hi, rfl, t0, t4, R', l', B', D', fH, sB, sD, hr, ho', nt, hD', hl', hv', hG'⟩
    obtain ⟨ua, uc, hue⟩ := nt.len
    by_cases hil : i < l'.length
    · have hil' : (i : Int) < (l'.length : Int) := by omega
      by_cases h50 : i < 50
      · have h50' : (i : Int) < 50 := by omega
        have wi : IntKind.i64.wrap ((i : Int) + 1) = (i : Int) + 1 := wrap64 (by omega) (by omega)
        have hx0 : l'[i]? = some l'[i] := List.getElem?_eq_getElem hil
        obtain ⟨x, hx⟩ : ∃ x, x = l'[i] := ⟨_, rfl⟩
        rw [← hx] at hx0
        obtain ⟨b, o, cp, cs, ro, w, ea, hb, hget, hrow, hbd, sw, hDb⟩ := nt.at hx0
        rw [ea] at hue
        simp only [Value.slice.injEq] at hue
        obtain ⟨rfl, -, rfl⟩ := hue
        simp only [rowN] at hrow
        obtain ⟨wa, wc, hw⟩ := sw.2.len
        simp -implicitDefEqProofs [J0,J1,J2,J3,J4,J5,J6,J7,J8,J9,Ja,Jb,Jc,Jd,Je,Jf,Jg,Jh,Ji,Jj,Jk,Jl,Jm,Jn,Jo,Jp,Jq,Jr,Js,Jt,Ju,Jv,Jw,Jx,Jy,Jz,JA,JB,JC,JD,JE,JF,JG,JH,JI,JJ,JK,JL,JM,JN,JO,JP,JQ,JR,JS,stillI,IOp.kind,JT,JU,JV,JW,JX,JY,JZ,Y0,Y1,Y2,Y3,Y4,Y5,Y6,Y7,Y8,Y9,Ya,Yb,Yc,Yd,Ye,Yf,Yg,Yh,Yi,Yj,Yk,Yl,Ym,Yn,Yo,Yp,Yq,ial,Yr,Ys,Yt,Yu,Yv,Yw,Yx,Yy,ires,iresL,ires1,Yz,YA,YB,YC,YD,YE,bin2,YF,YG,YH,YI,YJ,YK,YL,YM,YN,YO,YP,YQ,YR,YS,YT,YU,un1,shOk,eqL,eq1,fillL,putAt,IHeap.load1,IHeap.loadL,IHeap.storeL,YV,YW,YX,YY,YZ,B0,B1,B2,B3,B4,B5,B6,B7,B8,B9,Ba,Bb,Bc,Bd,Be,Bf,Bg,Bh,Bi,Bj,Bk,Bl,Bm,Bn,Bo,Bp, t0, t4, ea, hil, hil', h50, h50', hget, hrow, hbd]
        have hxv := hv' x (List.mem_of_getElem? hx0)
        refine call_of (RTake_ok c hc (x := x) (u := w) hr ho' sw (fun b hb => (hD' b hb).1) (by omega) fun v H2 sd => ?_)
        obtain ⟨Bx2', f2, s2, r2, n2⟩ := sd
        have hs2 := short_take ho' hr.sorted x
        have nt2 := nt.fr f2 (fun b hb => (hD' b hb).1)
        have hl2 := hs2.1
        obtain ⟨v3, H3, news, e1, e2, e3, e4⟩ := nt2.append n2 (by omega)
        rw [ea] at e2
        obtain ⟨va, vc, hv⟩ := n2.len
        subst hv
        simp -implicitDefEqProofs [J0,J1,J2,J3,J4,J5,J6,J7,J8,J9,Ja,Jb,Jc,Jd,Je,Jf,Jg,Jh,Ji,Jj,Jk,Jl,Jm,Jn,Jo,Jp,Jq,Jr,Js,Jt,Ju,Jv,Jw,Jx,Jy,Jz,JA,JB,JC,JD,JE,JF,JG,JH,JI,JJ,JK,JL,JM,JN,JO,JP,JQ,JR,JS,stillI,IOp.kind,JT,JU,JV,JW,JX,JY,JZ,Y0,Y1,Y2,Y3,Y4,Y5,Y6,Y7,Y8,Y9,Ya,Yb,Yc,Yd,Ye,Yf,Yg,Yh,Yi,Yj,Yk,Yl,Ym,Yn,Yo,Yp,Yq,ial,Yr,Ys,Yt,Yu,Yv,Yw,Yx,Yy,ires,iresL,ires1,Yz,YA,YB,YC,YD,YE,bin2,YF,YG,YH,YI,YJ,YK,YL,YM,YN,YO,YP,YQ,YR,YS,YT,YU,un1,shOk,eqL,eq1,fillL,putAt,IHeap.load1,IHeap.loadL,IHeap.storeL,YV,YW,YX,YY,YZ,B0,B1,B2,B3,B4,B5,B6,B7,B8,B9,Ba,Bb,Bc,Bd,Be,Bf,Bg,Bh,Bi,Bj,Bk,Bl,Bm,Bn,Bo,Bp, t0, t4, ea, lenOfI, e1, e2, wi]
        have nf2 := f2.next
        have nf4 := e4.next
        refine ⟨50 - (i + 1), by omega, i + 1, by omega, rfl, rfl, (R'.take x).1, l' ++ (R'.take x).2, Bx2', fun z => D' z ∨ (H'.next ≤ z ∧ z < H2.next ∧ ¬ Bx2' z) ∨ (H2.next ≤ z ∧ z < H3.next), ?_, ?_, ?_, ?_, (ho'.take x).1, e3, ?_, ?_, ?_, ?_⟩
        · have f24 : Fr (fun b => B' b ∨ D' b) H' H3 := (f2.weak fun b hb => Or.inl hb).trans (e4.weak fun b hb => Or.inr hb) (fun b hb => .inl hb)
          refine fH.trans f24 fun b hb => ?_
          rcases hb with hb | hb
          · exact (sB b hb).imp .inl id
          · exact (sD b hb).imp .inr id
        · have := fH.next
          exact fun b hb => (s2 b hb).elim (sB b) fun z => .inr (by omega)
        · have := fH.next
          intro b hb
          rcases hb with hb | hb | hb
          · exact sD b hb
          · exact .inr (by omega)
          · exact .inr (by omega)
        · refine r2.fr e4 fun b hb hd => ?_
          rcases s2 b hb with z | z
          · exact (hD' b hd).1 z
          · have := (hD' b hd).2; omega
        · intro b hb
          rcases hb with hb | hb | hb
          · refine ⟨fun hh => ?_, by have := (hD' b hb).2; omega⟩
            rcases s2 b hh with z | z
            · exact (hD' b hb).1 z
            · have := (hD' b hb).2; omega
          · exact ⟨hb.2.2, by omega⟩
          · exact ⟨fun hh => by have := r2.lt b hh; omega, hb.2⟩
        · rw [List.length_append]; omega
        · intro y hy
          rcases List.mem_append.1 hy with hy | hy
          · exact hv' y hy
          · exact hs2.2 y hy
        · rw [show 50 - i = (50 - (i + 1)) + 1 by omega] at hG'
          simp only [settleR, hx0] at hG'
          exact hG'
      · have h50' : ¬ (i : Int) < 50 := by omega
        have hie : i = 50 := by omega
        subst hie
        have hG2 : R' = G := hG'
        subst hG2
        have hil2 : (50 : Int) < (l'.length : Int) := by omega
        simp -implicitDefEqProofs [J0,J1,J2,J3,J4,J5,J6,J7,J8,J9,Ja,Jb,Jc,Jd,Je,Jf,Jg,Jh,Ji,Jj,Jk,Jl,Jm,Jn,Jo,Jp,Jq,Jr,Js,Jt,Ju,Jv,Jw,Jx,Jy,Jz,JA,JB,JC,JD,JE,JF,JG,JH,JI,JJ,JK,JL,JM,JN,JO,JP,JQ,JR,JS,stillI,IOp.kind,JT,JU,JV,JW,JX,JY,JZ,Y0,Y1,Y2,Y3,Y4,Y5,Y6,Y7,Y8,Y9,Ya,Yb,Yc,Yd,Ye,Yf,Yg,Yh,Yi,Yj,Yk,Yl,Ym,Yn,Yo,Yp,Yq,ial,Yr,Ys,Yt,Yu,Yv,Yw,Yx,Yy,ires,iresL,ires1,Yz,YA,YB,YC,YD,YE,bin2,YF,YG,YH,YI,YJ,YK,YL,YM,YN,YO,YP,YQ,YR,YS,YT,YU,un1,shOk,eqL,eq1,fillL,putAt,IHeap.load1,IHeap.loadL,IHeap.storeL,YV,YW,YX,YY,YZ,B0,B1,B2,B3,B4,B5,B6,B7,B8,B9,Ba,Bb,Bc,Bd,Be,Bf,Bg,Bh,Bi,Bj,Bk,Bl,Bm,Bn,Bo,Bp, t0, t4, hue, hil, hil2, h50, h50']
        exact hK H' B' fH sB hr ho'
    · have hil' : ¬ (i : Int) < (l'.length : Int) := by omega
      have hR : R' = G := by
        rw [← hG']
        cases hq : 50 - i with
        | zero => rfl
        | succ f => simp only [settleR, List.getElem?_eq_none (show l'.length ≤ i by omega)]
      subst hR
      simp -implicitDefEqProofs [J0,J1,J2,J3,J4,J5,J6,J7,J8,J9,Ja,Jb,Jc,Jd,Je,Jf,Jg,Jh,Ji,Jj,Jk,Jl,Jm,Jn,Jo,Jp,Jq,Jr,Js,Jt,Ju,Jv,Jw,Jx,Jy,Jz,JA,JB,JC,JD,JE,JF,JG,JH,JI,JJ,JK,JL,JM,JN,JO,JP,JQ,JR,JS,stillI,IOp.kind,JT,JU,JV,JW,JX,JY,JZ,Y0,Y1,Y2,Y3,Y4,Y5,Y6,Y7,Y8,Y9,Ya,Yb,Yc,Yd,Ye,Yf,Yg,Yh,Yi,Yj,Yk,Yl,Ym,Yn,Yo,Yp,Yq,ial,Yr,Ys,Yt,Yu,Yv,Yw,Yx,Yy,ires,iresL,ires1,Yz,YA,YB,YC,YD,YE,bin2,YF,YG,YH,YI,YJ,YK,YL,YM,YN,YO,YP,YQ,YR,YS,YT,YU,un1,shOk,eqL,eq1,fillL,putAt,IHeap.load1,IHeap.loadL,IHeap.storeL,YV,YW,YX,YY,YZ,B0,B1,B2,B3,B4,B5,B6,B7,B8,B9,Ba,Bb,Bc,Bd,Be,Bf,Bg,Bh,Bi,Bj,Bk,Bl,Bm,Bn,Bo,Bp, t0, t4, hue, hil, hil']
      exact hK H' B' fH sB hr ho'
end
end Go.Proofs.YtfmjbmddghjjmaaI
namespace Go.Proofs.YtfmjbmddghjjmaaI
set_option linter.unusedSimpArgs false
set_option linter.unusedVariables false
open Go

def rowT1 (x : ByteArray) : List Value := [.string x]
section
variable (c : Ctx) (hR : HasRef21 c) {H : IHeap} {K : Value → IHeap → Prop}
include hR

theorem refTexts01_ok {l m : List ByteArray} {u v : Value} (hu : SlR H 1 u (l.map rowT1)) (hv : SlR H 1 v (m.map rowT1)) (hl : l.length ≤ 1000000000) (hK : K (.bool (decide (l = m))) H) : c.C (c.F n_hurdleref01_Texts) [u, v] H K := by
  refine c.enter hR.hurdleref01_Texts rfl ?_
  have hu' := hu
  have hv' := hv
  obtain ⟨a, cap, rfl, _⟩ := hu
  obtain ⟨a2, cap2, rfl, _⟩ := hv
  simp only [List.length_map] at hu' hv' ⊢
  by_cases hlen : l.length = m.length
  · simp -implicitDefEqProofs [J0,J1,J2,J3,J4,J5,J6,J7,J8,J9,Ja,Jb,Jc,Jd,Je,Jf,Jg,Jh,Ji,Jj,Jk,Jl,Jm,Jn,Jo,Jp,Jq,Jr,Js,Jt,Ju,Jv,Jw,Jx,Jy,Jz,JA,JB,JC,JD,JE,JF,JG,JH,JI,JJ,JK,JL,JM,JN,JO,JP,JQ,JR,JS,stillI,IOp.kind,JT,JU,JV,JW,JX,JY,JZ,Y0,Y1,Y2,Y3,Y4,Y5,Y6,Y7,Y8,Y9,Ya,Yb,Yc,Yd,Ye,Yf,Yg,Yh,Yi,Yj,Yk,Yl,Ym,Yn,Yo,Yp,Yq,ial,Yr,Ys,Yt,Yu,Yv,Yw,Yx,Yy,ires,iresL,ires1,Yz,YA,YB,YC,YD,YE,bin2,YF,YG,YH,YI,YJ,YK,YL,YM,YN,YO,YP,YQ,YR,YS,YT,YU,un1,shOk,eqL,eq1,fillL,putAt,IHeap.load1,IHeap.loadL,IHeap.storeL,YV,YW,YX,YY,YZ,B0,B1,B2,B3,B4,B5,B6,B7,B8,B9,Ba,Bb,Bc,Bd,Be,Bf,Bg,Bh,Bi,Bj,Bk,Bl,Bm,Bn,Bo,Bp, c_hurdleref01_Texts, hlen]
    refine loop_nat c.mono (fun k T H' => ∃ i : Nat, i ≤ l.length ∧ k = l.length - i ∧ T 0 = .slice a m.length cap ∧ T 1 = .slice a2 m.length cap2 ∧ T 5 = .int .i64 i ∧ H' = H ∧ l.take i = m.take i) l.length ?_ ?_
    · exact ⟨0, by omega, rfl, by simp -implicitDefEqProofs [J0,J1,J2,J3,J4,J5,J6,J7,J8,J9,Ja,Jb,Jc,Jd,Je,Jf,Jg,Jh,Ji,Jj,Jk,Jl,Jm,Jn,Jo,Jp,Jq,Jr,Js,Jt,Ju,Jv,Jw,Jx,Jy,Jz,JA,JB,JC,JD,JE,JF,JG,JH,JI,JJ,JK,JL,JM,JN,JO,JP,JQ,JR,JS,stillI,IOp.kind,JT,JU,JV,JW,JX,JY,JZ,Y0,Y1,Y2,Y3,Y4,Y5,Y6,Y7,Y8,Y9,Ya,Yb,Yc,Yd,Ye,Yf,Yg,Yh,Yi,Yj,Yk,Yl,Ym,Yn,Yo,Yp,Yq,ial,Yr,Ys,Yt,Yu,Yv,Yw,Yx,Yy,ires,iresL,ires1,Yz,YA,YB,YC,YD,YE,bin2,YF,YG,YH,YI,YJ,YK,YL,YM,YN,YO,YP,YQ,YR,YS,YT,YU,un1,shOk,eqL,eq1,fillL,putAt,IHeap.load1,IHeap.loadL,IHeap.storeL,YV,YW,YX,YY,YZ,B0,B1,B2,B3,B4,B5,B6,B7,B8,B9,Ba,Bb,Bc,Bd,Be,Bf,Bg,Bh,Bi,Bj,Bk,Bl,Bm,Bn,Bo,Bp], by simp -implicitDefEqProofs [J0,J1,J2,J3,J4,J5,J6,J7,J8,J9,Ja,Jb,Jc,Jd,Je,Jf,Jg,Jh,Ji,Jj,Jk,Jl,Jm,Jn,Jo,Jp,Jq,Jr,Js,Jt,Ju,Jv,Jw,Jx,Jy,Jz,JA,JB,JC,JD,JE,JF,JG,JH,JI,JJ,JK,JL,JM,JN,JO,JP,JQ,JR,JS,stillI,IOp.kind,JT,JU,JV,JW,JX,JY,JZ,Y0,Y1,Y2,Y3,Y4,Y5,Y6,Y7,Y8,Y9,Ya,Yb,Yc,Yd,Ye,Yf,Yg,Yh,Yi,Yj,Yk,Yl,Ym,Yn,Yo,Yp,Yq,ial,Yr,Ys,Yt,Yu,Yv,Yw,Yx,Yy,ires,iresL,ires1,Yz,YA,YB,YC,YD,YE,bin2,YF,YG,YH,YI,YJ,YK,YL,YM,YN,YO,YP,YQ,YR,YS,YT,YU,un1,shOk,eqL,eq1,fillL,putAt,IHeap.load1,IHeap.loadL,IHeap.storeL,YV,YW,YX,YY,YZ,B0,B1,B2,B3,B4,B5,B6,B7,B8,B9,Ba,Bb,Bc,Bd,Be,Bf,Bg,Bh,Bi,Bj,Bk,Bl,Bm,Bn,Bo,Bp], by simp -implicitDefEqProofs [J0,J1,J2,J3,J4,J5,J6,J7,J8,J9,Ja,Jb,Jc,Jd,Je,Jf,Jg,Jh,Ji,Jj,Jk,Jl,Jm,Jn,Jo,Jp,Jq,Jr,Js,Jt,Ju,Jv,Jw,Jx,Jy,Jz,JA,JB,JC,JD,JE,JF,JG,JH,JI,JJ,JK,JL,JM,JN,JO,JP,JQ,JR,JS,stillI,IOp.kind,JT,JU,JV,JW,JX,JY,JZ,Y0,Y1,Y2,Y3,Y4,Y5,Y6,Y7,Y8,Y9,Ya,Yb,Yc,Yd,Ye,Yf,Yg,Yh,Yi,Yj,Yk,Yl,Ym,Yn,Yo,Yp,Yq,ial,Yr,Ys,Yt,Yu,Yv,Yw,Yx,Yy,ires,iresL,ires1,Yz,YA,YB,YC,YD,YE,bin2,YF,YG,YH,YI,YJ,YK,YL,YM,YN,YO,YP,YQ,YR,YS,YT,YU,un1,shOk,eqL,eq1,fillL,putAt,IHeap.load1,IHeap.loadL,IHeap.storeL,YV,YW,YX,YY,YZ,B0,B1,B2,B3,B4,B5,B6,B7,B8,B9,Ba,Bb,Bc,Bd,Be,Bf,Bg,Bh,Bi,Bj,Bk,Bl,Bm,Bn,Bo,Bp], rfl, rfl⟩
    · rintro k T H' ⟨i, hi, rfl, t0, t1, t5, rfl, heq⟩
      by_cases hil : i < l.length
      · have him : i < m.length := by omega
        obtain ⟨b, o, cp, cs, ro, e1, hb, hget, hat⟩ := hu'.at1 (i := i) (x := .string l[i]) (by simp [hil, rowT1])
        obtain ⟨b2, o2, cp2, cs2, ro2, e2, hb2, hget2, hat2⟩ := hv'.at1 (i := i) (x := .string m[i]) (by simp [him, rowT1])
        simp only [Value.slice.injEq] at e1 e2
        obtain ⟨rfl, -, rfl⟩ := e1
        obtain ⟨rfl, -, rfl⟩ := e2
        have hic : (i : Int) < (m.length : Int) := by omega
        have hw : IntKind.i64.wrap ((i : Int) + 1) = (i : Int) + 1 := wrap64 (by omega) (by omega)
        by_cases hx : l[i] = m[i]
        · simp -implicitDefEqProofs [J0,J1,J2,J3,J4,J5,J6,J7,J8,J9,Ja,Jb,Jc,Jd,Je,Jf,Jg,Jh,Ji,Jj,Jk,Jl,Jm,Jn,Jo,Jp,Jq,Jr,Js,Jt,Ju,Jv,Jw,Jx,Jy,Jz,JA,JB,JC,JD,JE,JF,JG,JH,JI,JJ,JK,JL,JM,JN,JO,JP,JQ,JR,JS,stillI,IOp.kind,JT,JU,JV,JW,JX,JY,JZ,Y0,Y1,Y2,Y3,Y4,Y5,Y6,Y7,Y8,Y9,Ya,Yb,Yc,Yd,Ye,Yf,Yg,Yh,Yi,Yj,Yk,Yl,Ym,Yn,Yo,Yp,Yq,ial,Yr,Ys,Yt,Yu,Yv,Yw,Yx,Yy,ires,iresL,ires1,Yz,YA,YB,YC,YD,YE,bin2,YF,YG,YH,YI,YJ,YK,YL,YM,YN,YO,YP,YQ,YR,YS,YT,YU,un1,shOk,eqL,eq1,fillL,putAt,IHeap.load1,IHeap.loadL,IHeap.storeL,YV,YW,YX,YY,YZ,B0,B1,B2,B3,B4,B5,B6,B7,B8,B9,Ba,Bb,Bc,Bd,Be,Bf,Bg,Bh,Bi,Bj,Bk,Bl,Bm,Bn,Bo,Bp, t0, t1, t5, hic, him, hget, hget2, hat, hat2, hx, hw, str2]
          refine ⟨l.length - (i + 1), by omega, i + 1, by omega, rfl, by simp, ?_⟩
          rw [List.take_add_one, List.take_add_one, heq, List.getElem?_eq_getElem hil, List.getElem?_eq_getElem him, hx]
        · have hx' : ¬ l[i].data = m[i].data := fun h => hx (by cases h1 : l[i]; cases h2 : m[i]; rw [h1, h2] at h; simp at h; rw [h])
          simp -implicitDefEqProofs [J0,J1,J2,J3,J4,J5,J6,J7,J8,J9,Ja,Jb,Jc,Jd,Je,Jf,Jg,Jh,Ji,Jj,Jk,Jl,Jm,Jn,Jo,Jp,Jq,Jr,Js,Jt,Ju,Jv,Jw,Jx,Jy,Jz,JA,JB,JC,JD,JE,JF,JG,JH,JI,JJ,JK,JL,JM,JN,JO,JP,JQ,JR,JS,stillI,IOp.kind,JT,JU,JV,JW,JX,JY,JZ,Y0,Y1,Y2,Y3,Y4,Y5,Y6,Y7,Y8,Y9,Ya,Yb,Yc,Yd,Ye,Yf,Yg,Yh,Yi,Yj,Yk,Yl,Ym,Yn,Yo,Yp,Yq,ial,Yr,Ys,Yt,Yu,Yv,Yw,Yx,Yy,ires,iresL,ires1,Yz,YA,YB,YC,YD,YE,bin2,YF,YG,YH,YI,YJ,YK,YL,YM,YN,YO,YP,YQ,YR,YS,YT,YU,un1,shOk,eqL,eq1,fillL,putAt,IHeap.load1,IHeap.loadL,IHeap.storeL,YV,YW,YX,YY,YZ,B0,B1,B2,B3,B4,B5,B6,B7,B8,B9,Ba,Bb,Bc,Bd,Be,Bf,Bg,Bh,Bi,Bj,Bk,Bl,Bm,Bn,Bo,Bp, t0, t1, t5, hic, him, hget, hget2, hat, hat2, hx', hw, str2]
          have : decide (l = m) = false := decide_eq_false (by rintro rfl; exact hx rfl)
          rw [this] at hK
          exact hK
      · have him : ¬ i < m.length := by omega
        have hic : ¬ (i : Int) < (m.length : Int) := by omega
        simp -implicitDefEqProofs [J0,J1,J2,J3,J4,J5,J6,J7,J8,J9,Ja,Jb,Jc,Jd,Je,Jf,Jg,Jh,Ji,Jj,Jk,Jl,Jm,Jn,Jo,Jp,Jq,Jr,Js,Jt,Ju,Jv,Jw,Jx,Jy,Jz,JA,JB,JC,JD,JE,JF,JG,JH,JI,JJ,JK,JL,JM,JN,JO,JP,JQ,JR,JS,stillI,IOp.kind,JT,JU,JV,JW,JX,JY,JZ,Y0,Y1,Y2,Y3,Y4,Y5,Y6,Y7,Y8,Y9,Ya,Yb,Yc,Yd,Ye,Yf,Yg,Yh,Yi,Yj,Yk,Yl,Ym,Yn,Yo,Yp,Yq,ial,Yr,Ys,Yt,Yu,Yv,Yw,Yx,Yy,ires,iresL,ires1,Yz,YA,YB,YC,YD,YE,bin2,YF,YG,YH,YI,YJ,YK,YL,YM,YN,YO,YP,YQ,YR,YS,YT,YU,un1,shOk,eqL,eq1,fillL,putAt,IHeap.load1,IHeap.loadL,IHeap.storeL,YV,YW,YX,YY,YZ,B0,B1,B2,B3,B4,B5,B6,B7,B8,B9,Ba,Bb,Bc,Bd,Be,Bf,Bg,Bh,Bi,Bj,Bk,Bl,Bm,Bn,Bo,Bp, t0, t1, t5, hic, him]
        rw [List.take_of_length_le (by omega), List.take_of_length_le (by omega)] at heq
        have : decide (l = m) = true := decide_eq_true heq
        rw [this] at hK
        exact hK
  · have hlen' : ¬ (l.length : Int) = (m.length : Int) := by omega
    simp -implicitDefEqProofs [J0,J1,J2,J3,J4,J5,J6,J7,J8,J9,Ja,Jb,Jc,Jd,Je,Jf,Jg,Jh,Ji,Jj,Jk,Jl,Jm,Jn,Jo,Jp,Jq,Jr,Js,Jt,Ju,Jv,Jw,Jx,Jy,Jz,JA,JB,JC,JD,JE,JF,JG,JH,JI,JJ,JK,JL,JM,JN,JO,JP,JQ,JR,JS,stillI,IOp.kind,JT,JU,JV,JW,JX,JY,JZ,Y0,Y1,Y2,Y3,Y4,Y5,Y6,Y7,Y8,Y9,Ya,Yb,Yc,Yd,Ye,Yf,Yg,Yh,Yi,Yj,Yk,Yl,Ym,Yn,Yo,Yp,Yq,ial,Yr,Ys,Yt,Yu,Yv,Yw,Yx,Yy,ires,iresL,ires1,Yz,YA,YB,YC,YD,YE,bin2,YF,YG,YH,YI,YJ,YK,YL,YM,YN,YO,YP,YQ,YR,YS,YT,YU,un1,shOk,eqL,eq1,fillL,putAt,IHeap.load1,IHeap.loadL,IHeap.storeL,YV,YW,YX,YY,YZ,B0,B1,B2,B3,B4,B5,B6,B7,B8,B9,Ba,Bb,Bc,Bd,Be,Bf,Bg,Bh,Bi,Bj,Bk,Bl,Bm,Bn,Bo,Bp, c_hurdleref01_Texts, hlen, hlen']
    have : decide (l = m) = false := decide_eq_false (by rintro rfl; exact hlen rfl)
    rw [this] at hK
    exact hK

theorem SameV_ok {L M : List VoteD} {u v : Value} (hu : SlR H 4 u (L.map rowV)) (hv : SlR H 4 v (M.map rowV)) (hl : L.length ≤ 1000000) (hK : K (.bool (decide (L = M))) H) : c.C (c.F n_hurdleref16_Same) [u, v] H K := by
  refine c.enter hR.hurdleref16_Same rfl ?_
  have hu' := hu
  have hv' := hv
  obtain ⟨a, cap, rfl, _⟩ := hu
  obtain ⟨a2, cap2, rfl, _⟩ := hv
  simp only [List.length_map] at hu' hv' ⊢
  by_cases hlen : L.length = M.length
  · simp -implicitDefEqProofs [J0,J1,J2,J3,J4,J5,J6,J7,J8,J9,Ja,Jb,Jc,Jd,Je,Jf,Jg,Jh,Ji,Jj,Jk,Jl,Jm,Jn,Jo,Jp,Jq,Jr,Js,Jt,Ju,Jv,Jw,Jx,Jy,Jz,JA,JB,JC,JD,JE,JF,JG,JH,JI,JJ,JK,JL,JM,JN,JO,JP,JQ,JR,JS,stillI,IOp.kind,JT,JU,JV,JW,JX,JY,JZ,Y0,Y1,Y2,Y3,Y4,Y5,Y6,Y7,Y8,Y9,Ya,Yb,Yc,Yd,Ye,Yf,Yg,Yh,Yi,Yj,Yk,Yl,Ym,Yn,Yo,Yp,Yq,ial,Yr,Ys,Yt,Yu,Yv,Yw,Yx,Yy,ires,iresL,ires1,Yz,YA,YB,YC,YD,YE,bin2,YF,YG,YH,YI,YJ,YK,YL,YM,YN,YO,YP,YQ,YR,YS,YT,YU,un1,shOk,eqL,eq1,fillL,putAt,IHeap.load1,IHeap.loadL,IHeap.storeL,YV,YW,YX,YY,YZ,B0,B1,B2,B3,B4,B5,B6,B7,B8,B9,Ba,Bb,Bc,Bd,Be,Bf,Bg,Bh,Bi,Bj,Bk,Bl,Bm,Bn,Bo,Bp, c_hurdleref16_Same, hlen]
    refine loop_nat c.mono (fun k T H' => ∃ i : Nat, i ≤ L.length ∧ k = L.length - i ∧ T 0 = .slice a M.length cap ∧ T 1 = .slice a2 M.length cap2 ∧ T 5 = .int .i64 i ∧ H' = H ∧ L.take i = M.take i) L.length ?_ ?_
    · exact ⟨0, by omega, rfl, by simp -implicitDefEqProofs [J0,J1,J2,J3,J4,J5,J6,J7,J8,J9,Ja,Jb,Jc,Jd,Je,Jf,Jg,Jh,Ji,Jj,Jk,Jl,Jm,Jn,Jo,Jp,Jq,Jr,Js,Jt,Ju,Jv,Jw,Jx,Jy,Jz,JA,JB,JC,JD,JE,JF,JG,JH,JI,JJ,JK,JL,JM,JN,JO,JP,JQ,JR,JS,stillI,IOp.kind,JT,JU,JV,JW,JX,JY,JZ,Y0,Y1,Y2,Y3,Y4,Y5,Y6,Y7,Y8,Y9,Ya,Yb,Yc,Yd,Ye,Yf,Yg,Yh,Yi,Yj,Yk,Yl,Ym,Yn,Yo,Yp,Yq,ial,Yr,Ys,Yt,Yu,Yv,Yw,Yx,Yy,ires,iresL,ires1,Yz,YA,YB,YC,YD,YE,bin2,YF,YG,YH,YI,YJ,YK,YL,YM,YN,YO,YP,YQ,YR,YS,YT,YU,un1,shOk,eqL,eq1,fillL,putAt,IHeap.load1,IHeap.loadL,IHeap.storeL,YV,YW,YX,YY,YZ,B0,B1,B2,B3,B4,B5,B6,B7,B8,B9,Ba,Bb,Bc,Bd,Be,Bf,Bg,Bh,Bi,Bj,Bk,Bl,Bm,Bn,Bo,Bp], by simp -implicitDefEqProofs [J0,J1,J2,J3,J4,J5,J6,J7,J8,J9,Ja,Jb,Jc,Jd,Je,Jf,Jg,Jh,Ji,Jj,Jk,Jl,Jm,Jn,Jo,Jp,Jq,Jr,Js,Jt,Ju,Jv,Jw,Jx,Jy,Jz,JA,JB,JC,JD,JE,JF,JG,JH,JI,JJ,JK,JL,JM,JN,JO,JP,JQ,JR,JS,stillI,IOp.kind,JT,JU,JV,JW,JX,JY,JZ,Y0,Y1,Y2,Y3,Y4,Y5,Y6,Y7,Y8,Y9,Ya,Yb,Yc,Yd,Ye,Yf,Yg,Yh,Yi,Yj,Yk,Yl,Ym,Yn,Yo,Yp,Yq,ial,Yr,Ys,Yt,Yu,Yv,Yw,Yx,Yy,ires,iresL,ires1,Yz,YA,YB,YC,YD,YE,bin2,YF,YG,YH,YI,YJ,YK,YL,YM,YN,YO,YP,YQ,YR,YS,YT,YU,un1,shOk,eqL,eq1,fillL,putAt,IHeap.load1,IHeap.loadL,IHeap.storeL,YV,YW,YX,YY,YZ,B0,B1,B2,B3,B4,B5,B6,B7,B8,B9,Ba,Bb,Bc,Bd,Be,Bf,Bg,Bh,Bi,Bj,Bk,Bl,Bm,Bn,Bo,Bp], by simp -implicitDefEqProofs [J0,J1,J2,J3,J4,J5,J6,J7,J8,J9,Ja,Jb,Jc,Jd,Je,Jf,Jg,Jh,Ji,Jj,Jk,Jl,Jm,Jn,Jo,Jp,Jq,Jr,Js,Jt,Ju,Jv,Jw,Jx,Jy,Jz,JA,JB,JC,JD,JE,JF,JG,JH,JI,JJ,JK,JL,JM,JN,JO,JP,JQ,JR,JS,stillI,IOp.kind,JT,JU,JV,JW,JX,JY,JZ,Y0,Y1,Y2,Y3,Y4,Y5,Y6,Y7,Y8,Y9,Ya,Yb,Yc,Yd,Ye,Yf,Yg,Yh,Yi,Yj,Yk,Yl,Ym,Yn,Yo,Yp,Yq,ial,Yr,Ys,Yt,Yu,Yv,Yw,Yx,Yy,ires,iresL,ires1,Yz,YA,YB,YC,YD,YE,bin2,YF,YG,YH,YI,YJ,YK,YL,YM,YN,YO,YP,YQ,YR,YS,YT,YU,un1,shOk,eqL,eq1,fillL,putAt,IHeap.load1,IHeap.loadL,IHeap.storeL,YV,YW,YX,YY,YZ,B0,B1,B2,B3,B4,B5,B6,B7,B8,B9,Ba,Bb,Bc,Bd,Be,Bf,Bg,Bh,Bi,Bj,Bk,Bl,Bm,Bn,Bo,Bp], rfl, rfl⟩
    · rintro k T H' ⟨i, hi, rfl, t0, t1, t5, rfl, heq⟩
      by_cases hil : i < L.length
      · have him : i < M.length := by omega
        obtain ⟨x, hx⟩ : ∃ x, x = L[i] := ⟨_, rfl⟩
        obtain ⟨y, hy⟩ : ∃ y, y = M[i] := ⟨_, rfl⟩
        have hxe : L[i]? = some x := by rw [hx, List.getElem?_eq_getElem hil]
        have hye : M[i]? = some y := by rw [hy, List.getElem?_eq_getElem him]
        obtain ⟨b, o, cp, cs, ro, e1, hb, hget, _, hrow, hbd⟩ := hu'.at (i := i) (r := rowV x) (by simp [hxe])
        obtain ⟨b2, o2, cp2, cs2, ro2, e2, hb2, hget2, _, hrow2, hbd2⟩ := hv'.at (i := i) (r := rowV y) (by simp [hye])
        simp only [Value.slice.injEq] at e1 e2
        obtain ⟨rfl, -, rfl⟩ := e1
        obtain ⟨rfl, -, rfl⟩ := e2
        simp only [rowV] at hrow hrow2
        have hic : (i : Int) < (M.length : Int) := by omega
        have hw : IntKind.i64.wrap ((i : Int) + 1) = (i : Int) + 1 := wrap64 (by omega) (by omega)
        have hno : x ≠ y → decide (L = M) = false := fun hn => decide_eq_false (by rintro rfl; rw [hxe] at hye; injection hye with e; exact hn e)
        by_cases h1 : x.slot = y.slot
        · by_cases h2 : x.a = y.a
          · by_cases h3 : x.n = y.n
            · by_cases h4 : x.val = y.val
              · have hxy : x = y := by cases x; cases y; simp_all
                simp -implicitDefEqProofs [J0,J1,J2,J3,J4,J5,J6,J7,J8,J9,Ja,Jb,Jc,Jd,Je,Jf,Jg,Jh,Ji,Jj,Jk,Jl,Jm,Jn,Jo,Jp,Jq,Jr,Js,Jt,Ju,Jv,Jw,Jx,Jy,Jz,JA,JB,JC,JD,JE,JF,JG,JH,JI,JJ,JK,JL,JM,JN,JO,JP,JQ,JR,JS,stillI,IOp.kind,JT,JU,JV,JW,JX,JY,JZ,Y0,Y1,Y2,Y3,Y4,Y5,Y6,Y7,Y8,Y9,Ya,Yb,Yc,Yd,Ye,Yf,Yg,Yh,Yi,Yj,Yk,Yl,Ym,Yn,Yo,Yp,Yq,ial,Yr,Ys,Yt,Yu,Yv,Yw,Yx,Yy,ires,iresL,ires1,Yz,YA,YB,YC,YD,YE,bin2,YF,YG,YH,YI,YJ,YK,YL,YM,YN,YO,YP,YQ,YR,YS,YT,YU,un1,shOk,eqL,eq1,fillL,putAt,IHeap.load1,IHeap.loadL,IHeap.storeL,YV,YW,YX,YY,YZ,B0,B1,B2,B3,B4,B5,B6,B7,B8,B9,Ba,Bb,Bc,Bd,Be,Bf,Bg,Bh,Bi,Bj,Bk,Bl,Bm,Bn,Bo,Bp, t0, t1, t5, hic, him, hget, hget2, hrow, hrow2, hbd, hbd2, h1, h2, h3, h4, hw]
                refine ⟨L.length - (i + 1), by omega, i + 1, by omega, rfl, by simp, ?_⟩
                rw [List.take_add_one, List.take_add_one, heq, hxe, hye, hxy]
              · rw [hno (by rintro rfl; exact h4 rfl)] at hK
                simp -implicitDefEqProofs [J0,J1,J2,J3,J4,J5,J6,J7,J8,J9,Ja,Jb,Jc,Jd,Je,Jf,Jg,Jh,Ji,Jj,Jk,Jl,Jm,Jn,Jo,Jp,Jq,Jr,Js,Jt,Ju,Jv,Jw,Jx,Jy,Jz,JA,JB,JC,JD,JE,JF,JG,JH,JI,JJ,JK,JL,JM,JN,JO,JP,JQ,JR,JS,stillI,IOp.kind,JT,JU,JV,JW,JX,JY,JZ,Y0,Y1,Y2,Y3,Y4,Y5,Y6,Y7,Y8,Y9,Ya,Yb,Yc,Yd,Ye,Yf,Yg,Yh,Yi,Yj,Yk,Yl,Ym,Yn,Yo,Yp,Yq,ial,Yr,Ys,Yt,Yu,Yv,Yw,Yx,Yy,ires,iresL,ires1,Yz,YA,YB,YC,YD,YE,bin2,YF,YG,YH,YI,YJ,YK,YL,YM,YN,YO,YP,YQ,YR,YS,YT,YU,un1,shOk,eqL,eq1,fillL,putAt,IHeap.load1,IHeap.loadL,IHeap.storeL,YV,YW,YX,YY,YZ,B0,B1,B2,B3,B4,B5,B6,B7,B8,B9,Ba,Bb,Bc,Bd,Be,Bf,Bg,Bh,Bi,Bj,Bk,Bl,Bm,Bn,Bo,Bp, t0, t1, t5, hic, him, hget, hget2, hrow, hrow2, hbd, hbd2, h1, h2, h3, h4, hw]
                exact hK
            · rw [hno (by rintro rfl; exact h3 rfl)] at hK
              simp -implicitDefEqProofs [J0,J1,J2,J3,J4,J5,J6,J7,J8,J9,Ja,Jb,Jc,Jd,Je,Jf,Jg,Jh,Ji,Jj,Jk,Jl,Jm,Jn,Jo,Jp,Jq,Jr,Js,Jt,Ju,Jv,Jw,Jx,Jy,Jz,JA,JB,JC,JD,JE,JF,JG,JH,JI,JJ,JK,JL,JM,JN,JO,JP,JQ,JR,JS,stillI,IOp.kind,JT,JU,JV,JW,JX,JY,JZ,Y0,Y1,Y2,Y3,Y4,Y5,Y6,Y7,Y8,Y9,Ya,Yb,Yc,Yd,Ye,Yf,Yg,Yh,Yi,Yj,Yk,Yl,Ym,Yn,Yo,Yp,Yq,ial,Yr,Ys,Yt,Yu,Yv,Yw,Yx,Yy,ires,iresL,ires1,Yz,YA,YB,YC,YD,YE,bin2,YF,YG,YH,YI,YJ,YK,YL,YM,YN,YO,YP,YQ,YR,YS,YT,YU,un1,shOk,eqL,eq1,fillL,putAt,IHeap.load1,IHeap.loadL,IHeap.storeL,YV,YW,YX,YY,YZ,B0,B1,B2,B3,B4,B5,B6,B7,B8,B9,Ba,Bb,Bc,Bd,Be,Bf,Bg,Bh,Bi,Bj,Bk,Bl,Bm,Bn,Bo,Bp, t0, t1, t5, hic, him, hget, hget2, hrow, hrow2, hbd, hbd2, h1, h2, h3, hw]
              exact hK
          · rw [hno (by rintro rfl; exact h2 rfl)] at hK
            simp -implicitDefEqProofs [J0,J1,J2,J3,J4,J5,J6,J7,J8,J9,Ja,Jb,Jc,Jd,Je,Jf,Jg,Jh,Ji,Jj,Jk,Jl,Jm,Jn,Jo,Jp,Jq,Jr,Js,Jt,Ju,Jv,Jw,Jx,Jy,Jz,JA,JB,JC,JD,JE,JF,JG,JH,JI,JJ,JK,JL,JM,JN,JO,JP,JQ,JR,JS,stillI,IOp.kind,JT,JU,JV,JW,JX,JY,JZ,Y0,Y1,Y2,Y3,Y4,Y5,Y6,Y7,Y8,Y9,Ya,Yb,Yc,Yd,Ye,Yf,Yg,Yh,Yi,Yj,Yk,Yl,Ym,Yn,Yo,Yp,Yq,ial,Yr,Ys,Yt,Yu,Yv,Yw,Yx,Yy,ires,iresL,ires1,Yz,YA,YB,YC,YD,YE,bin2,YF,YG,YH,YI,YJ,YK,YL,YM,YN,YO,YP,YQ,YR,YS,YT,YU,un1,shOk,eqL,eq1,fillL,putAt,IHeap.load1,IHeap.loadL,IHeap.storeL,YV,YW,YX,YY,YZ,B0,B1,B2,B3,B4,B5,B6,B7,B8,B9,Ba,Bb,Bc,Bd,Be,Bf,Bg,Bh,Bi,Bj,Bk,Bl,Bm,Bn,Bo,Bp, t0, t1, t5, hic, him, hget, hget2, hrow, hrow2, hbd, hbd2, h1, h2, hw]
            exact hK
        · rw [hno (by rintro rfl; exact h1 rfl)] at hK
          simp -implicitDefEqProofs [J0,J1,J2,J3,J4,J5,J6,J7,J8,J9,Ja,Jb,Jc,Jd,Je,Jf,Jg,Jh,Ji,Jj,Jk,Jl,Jm,Jn,Jo,Jp,Jq,Jr,Js,Jt,Ju,Jv,Jw,Jx,Jy,Jz,JA,JB,JC,JD,JE,JF,JG,JH,JI,JJ,JK,JL,JM,JN,JO,JP,JQ,JR,JS,stillI,IOp.kind,JT,JU,JV,JW,JX,JY,JZ,Y0,Y1,Y2,Y3,Y4,Y5,Y6,Y7,Y8,Y9,Ya,Yb,Yc,Yd,Ye,Yf,Yg,Yh,Yi,Yj,Yk,Yl,Ym,Yn,Yo,Yp,Yq,ial,Yr,Ys,Yt,Yu,Yv,Yw,Yx,Yy,ires,iresL,ires1,Yz,YA,YB,YC,YD,YE,bin2,YF,YG,YH,YI,YJ,YK,YL,YM,YN,YO,YP,YQ,YR,YS,YT,YU,un1,shOk,eqL,eq1,fillL,putAt,IHeap.load1,IHeap.loadL,IHeap.storeL,YV,YW,YX,YY,YZ,B0,B1,B2,B3,B4,B5,B6,B7,B8,B9,Ba,Bb,Bc,Bd,Be,Bf,Bg,Bh,Bi,Bj,Bk,Bl,Bm,Bn,Bo,Bp, t0, t1, t5, hic, him, hget, hget2, hrow, hrow2, hbd, hbd2, h1, hw]
          exact hK
      · have him : ¬ i < M.length := by omega
        have hic : ¬ (i : Int) < (M.length : Int) := by omega
        simp -implicitDefEqProofs [J0,J1,J2,J3,J4,J5,J6,J7,J8,J9,Ja,Jb,Jc,Jd,Je,Jf,Jg,Jh,Ji,Jj,Jk,Jl,Jm,Jn,Jo,Jp,Jq,Jr,Js,Jt,Ju,Jv,Jw,Jx,Jy,Jz,JA,JB,JC,JD,JE,JF,JG,JH,JI,JJ,JK,JL,JM,JN,JO,JP,JQ,JR,JS,stillI,IOp.kind,JT,JU,JV,JW,JX,JY,JZ,Y0,Y1,Y2,Y3,Y4,Y5,Y6,Y7,Y8,Y9,Ya,Yb,Yc,Yd,Ye,Yf,Yg,Yh,Yi,Yj,Yk,Yl,Ym,Yn,Yo,Yp,Yq,ial,Yr,Ys,Yt,Yu,Yv,Yw,Yx,Yy,ires,iresL,ires1,Yz,YA,YB,YC,YD,YE,bin2,YF,YG,YH,YI,YJ,YK,YL,YM,YN,YO,YP,YQ,YR,YS,YT,YU,un1,shOk,eqL,eq1,fillL,putAt,IHeap.load1,IHeap.loadL,IHeap.storeL,YV,YW,YX,YY,YZ,B0,B1,B2,B3,B4,B5,B6,B7,B8,B9,Ba,Bb,Bc,Bd,Be,Bf,Bg,Bh,Bi,Bj,Bk,Bl,Bm,Bn,Bo,Bp, t0, t1, t5, hic, him]
        rw [List.take_of_length_le (by omega), List.take_of_length_le (by omega)] at heq
        rw [decide_eq_true heq] at hK
        exact hK
  · have hlen' : ¬ (L.length : Int) = (M.length : Int) := by omega
    simp -implicitDefEqProofs [J0,J1,J2,J3,J4,J5,J6,J7,J8,J9,Ja,Jb,Jc,Jd,Je,Jf,Jg,Jh,Ji,Jj,Jk,Jl,Jm,Jn,Jo,Jp,Jq,Jr,Js,Jt,Ju,Jv,Jw,Jx,Jy,Jz,JA,JB,JC,JD,JE,JF,JG,JH,JI,JJ,JK,JL,JM,JN,JO,JP,JQ,JR,JS,stillI,IOp.kind,JT,JU,JV,JW,JX,JY,JZ,Y0,Y1,Y2,Y3,Y4,Y5,Y6,Y7,Y8,Y9,Ya,Yb,Yc,Yd,Ye,Yf,Yg,Yh,Yi,Yj,Yk,Yl,Ym,Yn,Yo,Yp,Yq,ial,Yr,Ys,Yt,Yu,Yv,Yw,Yx,Yy,ires,iresL,ires1,Yz,YA,YB,YC,YD,YE,bin2,YF,YG,YH,YI,YJ,YK,YL,YM,YN,YO,YP,YQ,YR,YS,YT,YU,un1,shOk,eqL,eq1,fillL,putAt,IHeap.load1,IHeap.loadL,IHeap.storeL,YV,YW,YX,YY,YZ,B0,B1,B2,B3,B4,B5,B6,B7,B8,B9,Ba,Bb,Bc,Bd,Be,Bf,Bg,Bh,Bi,Bj,Bk,Bl,Bm,Bn,Bo,Bp, c_hurdleref16_Same, hlen, hlen']
    rw [decide_eq_false (by rintro rfl; exact hlen rfl)] at hK
    exact hK

end
end Go.Proofs.YtfmjbmddghjjmaaI
namespace Go.Proofs.YtfmjbmddghjjmaaI
set_option linter.unusedSimpArgs false
set_option linter.unusedVariables false
open Go

def sx : ByteArray := ⟨#[120]⟩
def w0 : Rp := Rp.new 1 0
def w2 : Rp := settleR 50 w0.lead.1 w0.lead.2 0
def w3 : Rp := (w2.propose sx).1
def w4 : Rp := settleR 50 w3 (w2.propose sx).2.1 0
def w5 : Rp := w4.crash
def w7 : Rp := settleR 50 w5.lead.1 w5.lead.2 0
theorem w0_prop : w0.propose sx = (w0, [], 16) := rfl
theorem w2_prop : (w2.propose sx).2.2 = 0 := by decide +kernel
theorem w4_log : logL w4.L 0 = [sx] := by decide +kernel
theorem w4_leads : w4.P.does = 2 := by decide +kernel
theorem w5_log : logL w5.L 0 = [] := by decide +kernel
theorem w7_log : logL w7.L 0 = [sx] := by decide +kernel
theorem w7_next : nextL w7.L = 1 := by decide +kernel

section
variable (c : Ctx) (hc : NodeC c) (hR : HasRef21 c) (hL : HasLaw21 c) {H : IHeap} {K : Value → IHeap → Prop}

include hc hR hL in
theorem awake21 (hK : ∀ H', K (.bool true) H') : c.C (c.F n_hurdlelaw21_awake) [] H K := by
  refine c.enter hL.hurdlelaw21_awake rfl ?_
  simp -implicitDefEqProofs [J0,J1,J2,J3,J4,J5,J6,J7,J8,J9,Ja,Jb,Jc,Jd,Je,Jf,Jg,Jh,Ji,Jj,Jk,Jl,Jm,Jn,Jo,Jp,Jq,Jr,Js,Jt,Ju,Jv,Jw,Jx,Jy,Jz,JA,JB,JC,JD,JE,JF,JG,JH,JI,JJ,JK,JL,JM,JN,JO,JP,JQ,JR,JS,stillI,IOp.kind,JT,JU,JV,JW,JX,JY,JZ,Y0,Y1,Y2,Y3,Y4,Y5,Y6,Y7,Y8,Y9,Ya,Yb,Yc,Yd,Ye,Yf,Yg,Yh,Yi,Yj,Yk,Yl,Ym,Yn,Yo,Yp,Yq,ial,Yr,Ys,Yt,Yu,Yv,Yw,Yx,Yy,ires,iresL,ires1,Yz,YA,YB,YC,YD,YE,bin2,YF,YG,YH,YI,YJ,YK,YL,YM,YN,YO,YP,YQ,YR,YS,YT,YU,un1,shOk,eqL,eq1,fillL,putAt,IHeap.load1,IHeap.loadL,IHeap.storeL,YV,YW,YX,YY,YZ,B0,B1,B2,B3,B4,B5,B6,B7,B8,B9,Ba,Bb,Bc,Bd,Be,Bf,Bg,Bh,Bi,Bj,Bk,Bl,Bm,Bn,Bo,Bp, c_hurdlelaw21_awake]
  refine call_of (RNew_ok c hc (fun h => absurd h (by decide)) fun _ _ _ p B H1 k1 bb1 i1 => ?_)
  simp -implicitDefEqProofs [J0,J1,J2,J3,J4,J5,J6,J7,J8,J9,Ja,Jb,Jc,Jd,Je,Jf,Jg,Jh,Ji,Jj,Jk,Jl,Jm,Jn,Jo,Jp,Jq,Jr,Js,Jt,Ju,Jv,Jw,Jx,Jy,Jz,JA,JB,JC,JD,JE,JF,JG,JH,JI,JJ,JK,JL,JM,JN,JO,JP,JQ,JR,JS,stillI,IOp.kind,JT,JU,JV,JW,JX,JY,JZ,Y0,Y1,Y2,Y3,Y4,Y5,Y6,Y7,Y8,Y9,Ya,Yb,Yc,Yd,Ye,Yf,Yg,Yh,Yi,Yj,Yk,Yl,Ym,Yn,Yo,Yp,Yq,ial,Yr,Ys,Yt,Yu,Yv,Yw,Yx,Yy,ires,iresL,ires1,Yz,YA,YB,YC,YD,YE,bin2,YF,YG,YH,YI,YJ,YK,YL,YM,YN,YO,YP,YQ,YR,YS,YT,YU,un1,shOk,eqL,eq1,fillL,putAt,IHeap.load1,IHeap.loadL,IHeap.storeL,YV,YW,YX,YY,YZ,B0,B1,B2,B3,B4,B5,B6,B7,B8,B9,Ba,Bb,Bc,Bd,Be,Bf,Bg,Bh,Bi,Bj,Bk,Bl,Bm,Bn,Bo,Bp, nilOf]
  refine call_of (RNew_ok c hc (fun _ H2 k2 => ?_) fun _ _ h3 => absurd h3 (by omega))
  have ok0 : w0.ok := Rp.new_ok (by decide) (by omega) (by omega)
  have i2 : IsR B H2 p w0 := i1.le k2
  simp -implicitDefEqProofs [J0,J1,J2,J3,J4,J5,J6,J7,J8,J9,Ja,Jb,Jc,Jd,Je,Jf,Jg,Jh,Ji,Jj,Jk,Jl,Jm,Jn,Jo,Jp,Jq,Jr,Js,Jt,Ju,Jv,Jw,Jx,Jy,Jz,JA,JB,JC,JD,JE,JF,JG,JH,JI,JJ,JK,JL,JM,JN,JO,JP,JQ,JR,JS,stillI,IOp.kind,JT,JU,JV,JW,JX,JY,JZ,Y0,Y1,Y2,Y3,Y4,Y5,Y6,Y7,Y8,Y9,Ya,Yb,Yc,Yd,Ye,Yf,Yg,Yh,Yi,Yj,Yk,Yl,Ym,Yn,Yo,Yp,Yq,ial,Yr,Ys,Yt,Yu,Yv,Yw,Yx,Yy,ires,iresL,ires1,Yz,YA,YB,YC,YD,YE,bin2,YF,YG,YH,YI,YJ,YK,YL,YM,YN,YO,YP,YQ,YR,YS,YT,YU,un1,shOk,eqL,eq1,fillL,putAt,IHeap.load1,IHeap.loadL,IHeap.storeL,YV,YW,YX,YY,YZ,B0,B1,B2,B3,B4,B5,B6,B7,B8,B9,Ba,Bb,Bc,Bd,Be,Bf,Bg,Bh,Bi,Bj,Bk,Bl,Bm,Bn,Bo,Bp, nilOf]
  refine call_of (RPropose_ok c hc (s := sx) i2 ok0 fun u3 H3 f3 i3 t3 => ?_)
  rw [w0_prop] at i3 ⊢
  simp -implicitDefEqProofs [J0,J1,J2,J3,J4,J5,J6,J7,J8,J9,Ja,Jb,Jc,Jd,Je,Jf,Jg,Jh,Ji,Jj,Jk,Jl,Jm,Jn,Jo,Jp,Jq,Jr,Js,Jt,Ju,Jv,Jw,Jx,Jy,Jz,JA,JB,JC,JD,JE,JF,JG,JH,JI,JJ,JK,JL,JM,JN,JO,JP,JQ,JR,JS,stillI,IOp.kind,JT,JU,JV,JW,JX,JY,JZ,Y0,Y1,Y2,Y3,Y4,Y5,Y6,Y7,Y8,Y9,Ya,Yb,Yc,Yd,Ye,Yf,Yg,Yh,Yi,Yj,Yk,Yl,Ym,Yn,Yo,Yp,Yq,ial,Yr,Ys,Yt,Yu,Yv,Yw,Yx,Yy,ires,iresL,ires1,Yz,YA,YB,YC,YD,YE,bin2,YF,YG,YH,YI,YJ,YK,YL,YM,YN,YO,YP,YQ,YR,YS,YT,YU,un1,shOk,eqL,eq1,fillL,putAt,IHeap.load1,IHeap.loadL,IHeap.storeL,YV,YW,YX,YY,YZ,B0,B1,B2,B3,B4,B5,B6,B7,B8,B9,Ba,Bb,Bc,Bd,Be,Bf,Bg,Bh,Bi,Bj,Bk,Bl,Bm,Bn,Bo,Bp]
  refine call_of (RLead_ok c hc (R := w0) i3 ok0 fun u4 H4 sd4 => ?_)
  obtain ⟨Bx4, f4, s4, i4, t4⟩ := sd4
  simp -implicitDefEqProofs [J0,J1,J2,J3,J4,J5,J6,J7,J8,J9,Ja,Jb,Jc,Jd,Je,Jf,Jg,Jh,Ji,Jj,Jk,Jl,Jm,Jn,Jo,Jp,Jq,Jr,Js,Jt,Ju,Jv,Jw,Jx,Jy,Jz,JA,JB,JC,JD,JE,JF,JG,JH,JI,JJ,JK,JL,JM,JN,JO,JP,JQ,JR,JS,stillI,IOp.kind,JT,JU,JV,JW,JX,JY,JZ,Y0,Y1,Y2,Y3,Y4,Y5,Y6,Y7,Y8,Y9,Ya,Yb,Yc,Yd,Ye,Yf,Yg,Yh,Yi,Yj,Yk,Yl,Ym,Yn,Yo,Yp,Yq,ial,Yr,Ys,Yt,Yu,Yv,Yw,Yx,Yy,ires,iresL,ires1,Yz,YA,YB,YC,YD,YE,bin2,YF,YG,YH,YI,YJ,YK,YL,YM,YN,YO,YP,YQ,YR,YS,YT,YU,un1,shOk,eqL,eq1,fillL,putAt,IHeap.load1,IHeap.loadL,IHeap.storeL,YV,YW,YX,YY,YZ,B0,B1,B2,B3,B4,B5,B6,B7,B8,B9,Ba,Bb,Bc,Bd,Be,Bf,Bg,Bh,Bi,Bj,Bk,Bl,Bm,Bn,Bo,Bp]
  refine call_of (settle_ok c hc hL i4 ok0.lead.1 t4 (fun b hb => ⟨hb.2.2, hb.2.1⟩) (short_lead ok0) fun H5 Bx5 f5 s5 i5 ok5 => ?_)
  have i5' : IsR Bx5 H5 p w2 := i5
  have ok2 : w2.ok := ok5
  simp -implicitDefEqProofs [J0,J1,J2,J3,J4,J5,J6,J7,J8,J9,Ja,Jb,Jc,Jd,Je,Jf,Jg,Jh,Ji,Jj,Jk,Jl,Jm,Jn,Jo,Jp,Jq,Jr,Js,Jt,Ju,Jv,Jw,Jx,Jy,Jz,JA,JB,JC,JD,JE,JF,JG,JH,JI,JJ,JK,JL,JM,JN,JO,JP,JQ,JR,JS,stillI,IOp.kind,JT,JU,JV,JW,JX,JY,JZ,Y0,Y1,Y2,Y3,Y4,Y5,Y6,Y7,Y8,Y9,Ya,Yb,Yc,Yd,Ye,Yf,Yg,Yh,Yi,Yj,Yk,Yl,Ym,Yn,Yo,Yp,Yq,ial,Yr,Ys,Yt,Yu,Yv,Yw,Yx,Yy,ires,iresL,ires1,Yz,YA,YB,YC,YD,YE,bin2,YF,YG,YH,YI,YJ,YK,YL,YM,YN,YO,YP,YQ,YR,YS,YT,YU,un1,shOk,eqL,eq1,fillL,putAt,IHeap.load1,IHeap.loadL,IHeap.storeL,YV,YW,YX,YY,YZ,B0,B1,B2,B3,B4,B5,B6,B7,B8,B9,Ba,Bb,Bc,Bd,Be,Bf,Bg,Bh,Bi,Bj,Bk,Bl,Bm,Bn,Bo,Bp]
  refine call_of (RPropose_ok c hc (s := sx) i5' ok2 fun u6 H6 f6 i6 t6 => ?_)
  rw [w2_prop]
  simp -implicitDefEqProofs [J0,J1,J2,J3,J4,J5,J6,J7,J8,J9,Ja,Jb,Jc,Jd,Je,Jf,Jg,Jh,Ji,Jj,Jk,Jl,Jm,Jn,Jo,Jp,Jq,Jr,Js,Jt,Ju,Jv,Jw,Jx,Jy,Jz,JA,JB,JC,JD,JE,JF,JG,JH,JI,JJ,JK,JL,JM,JN,JO,JP,JQ,JR,JS,stillI,IOp.kind,JT,JU,JV,JW,JX,JY,JZ,Y0,Y1,Y2,Y3,Y4,Y5,Y6,Y7,Y8,Y9,Ya,Yb,Yc,Yd,Ye,Yf,Yg,Yh,Yi,Yj,Yk,Yl,Ym,Yn,Yo,Yp,Yq,ial,Yr,Ys,Yt,Yu,Yv,Yw,Yx,Yy,ires,iresL,ires1,Yz,YA,YB,YC,YD,YE,bin2,YF,YG,YH,YI,YJ,YK,YL,YM,YN,YO,YP,YQ,YR,YS,YT,YU,un1,shOk,eqL,eq1,fillL,putAt,IHeap.load1,IHeap.loadL,IHeap.storeL,YV,YW,YX,YY,YZ,B0,B1,B2,B3,B4,B5,B6,B7,B8,B9,Ba,Bb,Bc,Bd,Be,Bf,Bg,Bh,Bi,Bj,Bk,Bl,Bm,Bn,Bo,Bp]
  have i6' : IsR Bx5 H6 p w3 := i6
  have ok3 : w3.ok := (ok2.propose sx).1
  refine call_of (settle_ok c hc hL i6' ok3 t6 (fun b hb => ⟨fun hh => by have := i5.lt b hh; omega, hb.2⟩) (short_propose ok2 sx) fun H7 Bx7 f7 s7 i7 ok7 => ?_)
  have i7' : IsR Bx7 H7 p w4 := i7
  have ok4 : w4.ok := ok7
  simp -implicitDefEqProofs [J0,J1,J2,J3,J4,J5,J6,J7,J8,J9,Ja,Jb,Jc,Jd,Je,Jf,Jg,Jh,Ji,Jj,Jk,Jl,Jm,Jn,Jo,Jp,Jq,Jr,Js,Jt,Ju,Jv,Jw,Jx,Jy,Jz,JA,JB,JC,JD,JE,JF,JG,JH,JI,JJ,JK,JL,JM,JN,JO,JP,JQ,JR,JS,stillI,IOp.kind,JT,JU,JV,JW,JX,JY,JZ,Y0,Y1,Y2,Y3,Y4,Y5,Y6,Y7,Y8,Y9,Ya,Yb,Yc,Yd,Ye,Yf,Yg,Yh,Yi,Yj,Yk,Yl,Ym,Yn,Yo,Yp,Yq,ial,Yr,Ys,Yt,Yu,Yv,Yw,Yx,Yy,ires,iresL,ires1,Yz,YA,YB,YC,YD,YE,bin2,YF,YG,YH,YI,YJ,YK,YL,YM,YN,YO,YP,YQ,YR,YS,YT,YU,un1,shOk,eqL,eq1,fillL,putAt,IHeap.load1,IHeap.loadL,IHeap.storeL,YV,YW,YX,YY,YZ,B0,B1,B2,B3,B4,B5,B6,B7,B8,B9,Ba,Bb,Bc,Bd,Be,Bf,Bg,Bh,Bi,Bj,Bk,Bl,Bm,Bn,Bo,Bp]
  refine call_of (RLog_ok c hc i7' fun v8 H8 k8 g8 => ?_)
  rw [w4_log] at g8
  have i8 := i7'.le k8
  simp -implicitDefEqProofs [J0,J1,J2,J3,J4,J5,J6,J7,J8,J9,Ja,Jb,Jc,Jd,Je,Jf,Jg,Jh,Ji,Jj,Jk,Jl,Jm,Jn,Jo,Jp,Jq,Jr,Js,Jt,Ju,Jv,Jw,Jx,Jy,Jz,JA,JB,JC,JD,JE,JF,JG,JH,JI,JJ,JK,JL,JM,JN,JO,JP,JQ,JR,JS,stillI,IOp.kind,JT,JU,JV,JW,JX,JY,JZ,Y0,Y1,Y2,Y3,Y4,Y5,Y6,Y7,Y8,Y9,Ya,Yb,Yc,Yd,Ye,Yf,Yg,Yh,Yi,Yj,Yk,Yl,Ym,Yn,Yo,Yp,Yq,ial,Yr,Ys,Yt,Yu,Yv,Yw,Yx,Yy,ires,iresL,ires1,Yz,YA,YB,YC,YD,YE,bin2,YF,YG,YH,YI,YJ,YK,YL,YM,YN,YO,YP,YQ,YR,YS,YT,YU,un1,shOk,eqL,eq1,fillL,putAt,IHeap.load1,IHeap.loadL,IHeap.storeL,YV,YW,YX,YY,YZ,B0,B1,B2,B3,B4,B5,B6,B7,B8,B9,Ba,Bb,Bc,Bd,Be,Bf,Bg,Bh,Bi,Bj,Bk,Bl,Bm,Bn,Bo,Bp]
  refine call_of (RLeads_ok c hc i8 ?_)
  rw [w4_leads]
  simp -implicitDefEqProofs [J0,J1,J2,J3,J4,J5,J6,J7,J8,J9,Ja,Jb,Jc,Jd,Je,Jf,Jg,Jh,Ji,Jj,Jk,Jl,Jm,Jn,Jo,Jp,Jq,Jr,Js,Jt,Ju,Jv,Jw,Jx,Jy,Jz,JA,JB,JC,JD,JE,JF,JG,JH,JI,JJ,JK,JL,JM,JN,JO,JP,JQ,JR,JS,stillI,IOp.kind,JT,JU,JV,JW,JX,JY,JZ,Y0,Y1,Y2,Y3,Y4,Y5,Y6,Y7,Y8,Y9,Ya,Yb,Yc,Yd,Ye,Yf,Yg,Yh,Yi,Yj,Yk,Yl,Ym,Yn,Yo,Yp,Yq,ial,Yr,Ys,Yt,Yu,Yv,Yw,Yx,Yy,ires,iresL,ires1,Yz,YA,YB,YC,YD,YE,bin2,YF,YG,YH,YI,YJ,YK,YL,YM,YN,YO,YP,YQ,YR,YS,YT,YU,un1,shOk,eqL,eq1,fillL,putAt,IHeap.load1,IHeap.loadL,IHeap.storeL,YV,YW,YX,YY,YZ,B0,B1,B2,B3,B4,B5,B6,B7,B8,B9,Ba,Bb,Bc,Bd,Be,Bf,Bg,Bh,Bi,Bj,Bk,Bl,Bm,Bn,Bo,Bp]
  refine call_of (RCrash_ok c hc i8 ok4 fun H9 Bx9 f9 s9 i9 => ?_)
  have i9' : IsR Bx9 H9 p w5 := i9
  have ok5 : w5.ok := ok4.crash.1
  have n7 := i7.lt
  have q9 : SlD (fun b => H7.next ≤ b ∧ b < H8.next) H9 1 v8 (([sx] : List ByteArray).map fun x => [.string x]) := g8.slD.fr f9 (fun b hb hh => by have := n7 b hh; omega)
  simp -implicitDefEqProofs [J0,J1,J2,J3,J4,J5,J6,J7,J8,J9,Ja,Jb,Jc,Jd,Je,Jf,Jg,Jh,Ji,Jj,Jk,Jl,Jm,Jn,Jo,Jp,Jq,Jr,Js,Jt,Ju,Jv,Jw,Jx,Jy,Jz,JA,JB,JC,JD,JE,JF,JG,JH,JI,JJ,JK,JL,JM,JN,JO,JP,JQ,JR,JS,stillI,IOp.kind,JT,JU,JV,JW,JX,JY,JZ,Y0,Y1,Y2,Y3,Y4,Y5,Y6,Y7,Y8,Y9,Ya,Yb,Yc,Yd,Ye,Yf,Yg,Yh,Yi,Yj,Yk,Yl,Ym,Yn,Yo,Yp,Yq,ial,Yr,Ys,Yt,Yu,Yv,Yw,Yx,Yy,ires,iresL,ires1,Yz,YA,YB,YC,YD,YE,bin2,YF,YG,YH,YI,YJ,YK,YL,YM,YN,YO,YP,YQ,YR,YS,YT,YU,un1,shOk,eqL,eq1,fillL,putAt,IHeap.load1,IHeap.loadL,IHeap.storeL,YV,YW,YX,YY,YZ,B0,B1,B2,B3,B4,B5,B6,B7,B8,B9,Ba,Bb,Bc,Bd,Be,Bf,Bg,Bh,Bi,Bj,Bk,Bl,Bm,Bn,Bo,Bp]
  refine call_of (RLog_ok c hc i9' fun v10 H10 k10 g10 => ?_)
  rw [w5_log] at g10
  have i10 := i9'.le k10
  have q10 := q9.le k10
  obtain ⟨a10, c10, hv10⟩ := g10.len
  simp only [List.map_nil, List.length_nil] at hv10
  simp -implicitDefEqProofs [J0,J1,J2,J3,J4,J5,J6,J7,J8,J9,Ja,Jb,Jc,Jd,Je,Jf,Jg,Jh,Ji,Jj,Jk,Jl,Jm,Jn,Jo,Jp,Jq,Jr,Js,Jt,Ju,Jv,Jw,Jx,Jy,Jz,JA,JB,JC,JD,JE,JF,JG,JH,JI,JJ,JK,JL,JM,JN,JO,JP,JQ,JR,JS,stillI,IOp.kind,JT,JU,JV,JW,JX,JY,JZ,Y0,Y1,Y2,Y3,Y4,Y5,Y6,Y7,Y8,Y9,Ya,Yb,Yc,Yd,Ye,Yf,Yg,Yh,Yi,Yj,Yk,Yl,Ym,Yn,Yo,Yp,Yq,ial,Yr,Ys,Yt,Yu,Yv,Yw,Yx,Yy,ires,iresL,ires1,Yz,YA,YB,YC,YD,YE,bin2,YF,YG,YH,YI,YJ,YK,YL,YM,YN,YO,YP,YQ,YR,YS,YT,YU,un1,shOk,eqL,eq1,fillL,putAt,IHeap.load1,IHeap.loadL,IHeap.storeL,YV,YW,YX,YY,YZ,B0,B1,B2,B3,B4,B5,B6,B7,B8,B9,Ba,Bb,Bc,Bd,Be,Bf,Bg,Bh,Bi,Bj,Bk,Bl,Bm,Bn,Bo,Bp]
  refine call_of (RLead_ok c hc (R := w5) i10 ok5 fun u11 H11 sd11 => ?_)
  obtain ⟨B11, f11, s11, i11, t11⟩ := sd11
  have n8 := i8.lt
  have n9 := f9.next
  have n10 := k10.next
  have hb9 : ∀ b, Bx9 b → b < H8.next → Bx7 b := fun b hb hl => (s9 b hb).resolve_right (by omega)
  have q11 := q10.fr f11 (fun b hb hh => by have := hb9 b hh hb.2; have := n7 b this; omega)
  simp -implicitDefEqProofs [J0,J1,J2,J3,J4,J5,J6,J7,J8,J9,Ja,Jb,Jc,Jd,Je,Jf,Jg,Jh,Ji,Jj,Jk,Jl,Jm,Jn,Jo,Jp,Jq,Jr,Js,Jt,Ju,Jv,Jw,Jx,Jy,Jz,JA,JB,JC,JD,JE,JF,JG,JH,JI,JJ,JK,JL,JM,JN,JO,JP,JQ,JR,JS,stillI,IOp.kind,JT,JU,JV,JW,JX,JY,JZ,Y0,Y1,Y2,Y3,Y4,Y5,Y6,Y7,Y8,Y9,Ya,Yb,Yc,Yd,Ye,Yf,Yg,Yh,Yi,Yj,Yk,Yl,Ym,Yn,Yo,Yp,Yq,ial,Yr,Ys,Yt,Yu,Yv,Yw,Yx,Yy,ires,iresL,ires1,Yz,YA,YB,YC,YD,YE,bin2,YF,YG,YH,YI,YJ,YK,YL,YM,YN,YO,YP,YQ,YR,YS,YT,YU,un1,shOk,eqL,eq1,fillL,putAt,IHeap.load1,IHeap.loadL,IHeap.storeL,YV,YW,YX,YY,YZ,B0,B1,B2,B3,B4,B5,B6,B7,B8,B9,Ba,Bb,Bc,Bd,Be,Bf,Bg,Bh,Bi,Bj,Bk,Bl,Bm,Bn,Bo,Bp]
  refine call_of (settle_ok c hc hL i11 ok5.lead.1 t11 (fun b hb => ⟨hb.2.2, hb.2.1⟩) (short_lead ok5) fun H12 B12 f12 s12 i12 ok12 => ?_)
  have i12' : IsR B12 H12 p w7 := i12
  have q12 := q11.fr f12 (fun b hb hh => by
    rcases hh with hh | hh
    · rcases s11 b hh with z | z
      · have := hb9 b z hb.2; have := n7 b this; omega
      · omega
    · omega)
  obtain ⟨H13, hH13⟩ : ∃ X : IHeap, X = H12.alloc (.cells [.string sx] false) := ⟨_, rfl⟩
  have k13 : H12.le H13 := by rw [hH13]; exact H12.le_alloc _
  have b13 : H13.get H12.next = some (.cells [.string sx] false) := by rw [hH13, YV, if_pos rfl]
  have n13 : H13.next = H12.next + 1 := by rw [hH13]; rfl
  have hH13' : H12.alloc (.cells [.string ⟨#[120]⟩] false) = H13 := by rw [hH13]; rfl
  have one : ∀ (HX : IHeap) (b : Nat), HX.get b = some (.cells [.string sx] false) → b < HX.next → SlR HX 1 (.slice (some ⟨b, 0, none⟩) 1 1) (([sx] : List ByteArray).map rowT1) := by
    intro HX b hg hb
    refine ⟨_, 1, rfl, fun _ => ⟨b, 0, _, false, rfl, hb, hg, fun j r hj => ?_⟩⟩
    match j, hj with
    | 0, hj => simp [rowT1] at hj; subst hj; exact ⟨rfl, rfl, Nat.le_refl _⟩
    | j + 1, hj => simp at hj
  simp -implicitDefEqProofs [J0,J1,J2,J3,J4,J5,J6,J7,J8,J9,Ja,Jb,Jc,Jd,Je,Jf,Jg,Jh,Ji,Jj,Jk,Jl,Jm,Jn,Jo,Jp,Jq,Jr,Js,Jt,Ju,Jv,Jw,Jx,Jy,Jz,JA,JB,JC,JD,JE,JF,JG,JH,JI,JJ,JK,JL,JM,JN,JO,JP,JQ,JR,JS,stillI,IOp.kind,JT,JU,JV,JW,JX,JY,JZ,Y0,Y1,Y2,Y3,Y4,Y5,Y6,Y7,Y8,Y9,Ya,Yb,Yc,Yd,Ye,Yf,Yg,Yh,Yi,Yj,Yk,Yl,Ym,Yn,Yo,Yp,Yq,ial,Yr,Ys,Yt,Yu,Yv,Yw,Yx,Yy,ires,iresL,ires1,Yz,YA,YB,YC,YD,YE,bin2,YF,YG,YH,YI,YJ,YK,YL,YM,YN,YO,YP,YQ,YR,YS,YT,YU,un1,shOk,eqL,eq1,fillL,putAt,IHeap.load1,IHeap.loadL,IHeap.storeL,YV,YW,YX,YY,YZ,B0,B1,B2,B3,B4,B5,B6,B7,B8,B9,Ba,Bb,Bc,Bd,Be,Bf,Bg,Bh,Bi,Bj,Bk,Bl,Bm,Bn,Bo,Bp, hH13']
  refine call_of (refTexts01_ok c hR (l := [sx]) (m := [sx]) (q12.le k13).sl (one H13 _ b13 (by omega)) (by simp) ?_)
  simp -implicitDefEqProofs [J0,J1,J2,J3,J4,J5,J6,J7,J8,J9,Ja,Jb,Jc,Jd,Je,Jf,Jg,Jh,Ji,Jj,Jk,Jl,Jm,Jn,Jo,Jp,Jq,Jr,Js,Jt,Ju,Jv,Jw,Jx,Jy,Jz,JA,JB,JC,JD,JE,JF,JG,JH,JI,JJ,JK,JL,JM,JN,JO,JP,JQ,JR,JS,stillI,IOp.kind,JT,JU,JV,JW,JX,JY,JZ,Y0,Y1,Y2,Y3,Y4,Y5,Y6,Y7,Y8,Y9,Ya,Yb,Yc,Yd,Ye,Yf,Yg,Yh,Yi,Yj,Yk,Yl,Ym,Yn,Yo,Yp,Yq,ial,Yr,Ys,Yt,Yu,Yv,Yw,Yx,Yy,ires,iresL,ires1,Yz,YA,YB,YC,YD,YE,bin2,YF,YG,YH,YI,YJ,YK,YL,YM,YN,YO,YP,YQ,YR,YS,YT,YU,un1,shOk,eqL,eq1,fillL,putAt,IHeap.load1,IHeap.loadL,IHeap.storeL,YV,YW,YX,YY,YZ,B0,B1,B2,B3,B4,B5,B6,B7,B8,B9,Ba,Bb,Bc,Bd,Be,Bf,Bg,Bh,Bi,Bj,Bk,Bl,Bm,Bn,Bo,Bp, hv10]
  refine call_of (RLog_ok c hc (i12'.le k13) fun v14 H14 k14 g14 => ?_)
  rw [w7_log] at g14
  obtain ⟨H15, hH15⟩ : ∃ X : IHeap, X = H14.alloc (.cells [.string sx] false) := ⟨_, rfl⟩
  have k15 : H14.le H15 := by rw [hH15]; exact H14.le_alloc _
  have b15 : H15.get H14.next = some (.cells [.string sx] false) := by rw [hH15, YV, if_pos rfl]
  have n15 : H15.next = H14.next + 1 := by rw [hH15]; rfl
  have hH15' : H14.alloc (.cells [.string ⟨#[120]⟩] false) = H15 := by rw [hH15]; rfl
  simp -implicitDefEqProofs [J0,J1,J2,J3,J4,J5,J6,J7,J8,J9,Ja,Jb,Jc,Jd,Je,Jf,Jg,Jh,Ji,Jj,Jk,Jl,Jm,Jn,Jo,Jp,Jq,Jr,Js,Jt,Ju,Jv,Jw,Jx,Jy,Jz,JA,JB,JC,JD,JE,JF,JG,JH,JI,JJ,JK,JL,JM,JN,JO,JP,JQ,JR,JS,stillI,IOp.kind,JT,JU,JV,JW,JX,JY,JZ,Y0,Y1,Y2,Y3,Y4,Y5,Y6,Y7,Y8,Y9,Ya,Yb,Yc,Yd,Ye,Yf,Yg,Yh,Yi,Yj,Yk,Yl,Ym,Yn,Yo,Yp,Yq,ial,Yr,Ys,Yt,Yu,Yv,Yw,Yx,Yy,ires,iresL,ires1,Yz,YA,YB,YC,YD,YE,bin2,YF,YG,YH,YI,YJ,YK,YL,YM,YN,YO,YP,YQ,YR,YS,YT,YU,un1,shOk,eqL,eq1,fillL,putAt,IHeap.load1,IHeap.loadL,IHeap.storeL,YV,YW,YX,YY,YZ,B0,B1,B2,B3,B4,B5,B6,B7,B8,B9,Ba,Bb,Bc,Bd,Be,Bf,Bg,Bh,Bi,Bj,Bk,Bl,Bm,Bn,Bo,Bp, hH15']
  refine call_of (refTexts01_ok c hR (l := [sx]) (m := [sx]) (g14.le k15).slr (one H15 _ b15 (by omega)) (by simp) ?_)
  simp -implicitDefEqProofs [J0,J1,J2,J3,J4,J5,J6,J7,J8,J9,Ja,Jb,Jc,Jd,Je,Jf,Jg,Jh,Ji,Jj,Jk,Jl,Jm,Jn,Jo,Jp,Jq,Jr,Js,Jt,Ju,Jv,Jw,Jx,Jy,Jz,JA,JB,JC,JD,JE,JF,JG,JH,JI,JJ,JK,JL,JM,JN,JO,JP,JQ,JR,JS,stillI,IOp.kind,JT,JU,JV,JW,JX,JY,JZ,Y0,Y1,Y2,Y3,Y4,Y5,Y6,Y7,Y8,Y9,Ya,Yb,Yc,Yd,Ye,Yf,Yg,Yh,Yi,Yj,Yk,Yl,Ym,Yn,Yo,Yp,Yq,ial,Yr,Ys,Yt,Yu,Yv,Yw,Yx,Yy,ires,iresL,ires1,Yz,YA,YB,YC,YD,YE,bin2,YF,YG,YH,YI,YJ,YK,YL,YM,YN,YO,YP,YQ,YR,YS,YT,YU,un1,shOk,eqL,eq1,fillL,putAt,IHeap.load1,IHeap.loadL,IHeap.storeL,YV,YW,YX,YY,YZ,B0,B1,B2,B3,B4,B5,B6,B7,B8,B9,Ba,Bb,Bc,Bd,Be,Bf,Bg,Bh,Bi,Bj,Bk,Bl,Bm,Bn,Bo,Bp]
  refine call_of (RNext_ok c hc (((i12'.le k13).le k14).le k15) ?_)
  rw [w7_next]
  simp -implicitDefEqProofs [J0,J1,J2,J3,J4,J5,J6,J7,J8,J9,Ja,Jb,Jc,Jd,Je,Jf,Jg,Jh,Ji,Jj,Jk,Jl,Jm,Jn,Jo,Jp,Jq,Jr,Js,Jt,Ju,Jv,Jw,Jx,Jy,Jz,JA,JB,JC,JD,JE,JF,JG,JH,JI,JJ,JK,JL,JM,JN,JO,JP,JQ,JR,JS,stillI,IOp.kind,JT,JU,JV,JW,JX,JY,JZ,Y0,Y1,Y2,Y3,Y4,Y5,Y6,Y7,Y8,Y9,Ya,Yb,Yc,Yd,Ye,Yf,Yg,Yh,Yi,Yj,Yk,Yl,Ym,Yn,Yo,Yp,Yq,ial,Yr,Ys,Yt,Yu,Yv,Yw,Yx,Yy,ires,iresL,ires1,Yz,YA,YB,YC,YD,YE,bin2,YF,YG,YH,YI,YJ,YK,YL,YM,YN,YO,YP,YQ,YR,YS,YT,YU,un1,shOk,eqL,eq1,fillL,putAt,IHeap.load1,IHeap.loadL,IHeap.storeL,YV,YW,YX,YY,YZ,B0,B1,B2,B3,B4,B5,B6,B7,B8,B9,Ba,Bb,Bc,Bd,Be,Bf,Bg,Bh,Bi,Bj,Bk,Bl,Bm,Bn,Bo,Bp]
  exact hK _

include hc hL in
theorem none_ok21 (hW : ∀ H K, (∀ H', K (.bool true) H') → c.C (c.F n_hurdlelaw21_awake) [] H K) {k t a b d s e f : Int} {x : ByteArray} {u : Value} (hK : ∀ H', K (.bool true) H') :
    c.C (c.F n_hurdlelaw21_ReplicaNone) [.agg #[.int .i64 k, .int .i64 t, .string x, .int .i64 a, .int .i64 b, .int .i64 d, .int .i64 s, .int .i64 e, .int .i64 f, u]] H K := by
  refine c.enter hL.hurdlelaw21_ReplicaNone rfl ?_
  obtain ⟨H0, hH0⟩ : ∃ X : IHeap, X = H.alloc (.cells [.int .i64 k, .int .i64 t, .string x, .int .i64 a, .int .i64 b, .int .i64 d, .int .i64 s, .int .i64 e, .int .i64 f, u] false) := ⟨_, rfl⟩
  have n0 : H0.next = H.next + 1 := by rw [hH0]; rfl
  have b0 : H0.get H.next = some (.cells [.int .i64 k, .int .i64 t, .string x, .int .i64 a, .int .i64 b, .int .i64 d, .int .i64 s, .int .i64 e, .int .i64 f, u] false) := by rw [hH0, YV, if_pos rfl]
  simp -implicitDefEqProofs [J0,J1,J2,J3,J4,J5,J6,J7,J8,J9,Ja,Jb,Jc,Jd,Je,Jf,Jg,Jh,Ji,Jj,Jk,Jl,Jm,Jn,Jo,Jp,Jq,Jr,Js,Jt,Ju,Jv,Jw,Jx,Jy,Jz,JA,JB,JC,JD,JE,JF,JG,JH,JI,JJ,JK,JL,JM,JN,JO,JP,JQ,JR,JS,stillI,IOp.kind,JT,JU,JV,JW,JX,JY,JZ,Y0,Y1,Y2,Y3,Y4,Y5,Y6,Y7,Y8,Y9,Ya,Yb,Yc,Yd,Ye,Yf,Yg,Yh,Yi,Yj,Yk,Yl,Ym,Yn,Yo,Yp,Yq,ial,Yr,Ys,Yt,Yu,Yv,Yw,Yx,Yy,ires,iresL,ires1,Yz,YA,YB,YC,YD,YE,bin2,YF,YG,YH,YI,YJ,YK,YL,YM,YN,YO,YP,YQ,YR,YS,YT,YU,un1,shOk,eqL,eq1,fillL,putAt,IHeap.load1,IHeap.loadL,IHeap.storeL,YV,YW,YX,YY,YZ,B0,B1,B2,B3,B4,B5,B6,B7,B8,B9,Ba,Bb,Bc,Bd,Be,Bf,Bg,Bh,Bi,Bj,Bk,Bl,Bm,Bn,Bo,Bp, c_hurdlelaw21_ReplicaNone, ← hH0, b0]
  refine call_of (RCrash_none c hc ?_)
  simp -implicitDefEqProofs [J0,J1,J2,J3,J4,J5,J6,J7,J8,J9,Ja,Jb,Jc,Jd,Je,Jf,Jg,Jh,Ji,Jj,Jk,Jl,Jm,Jn,Jo,Jp,Jq,Jr,Js,Jt,Ju,Jv,Jw,Jx,Jy,Jz,JA,JB,JC,JD,JE,JF,JG,JH,JI,JJ,JK,JL,JM,JN,JO,JP,JQ,JR,JS,stillI,IOp.kind,JT,JU,JV,JW,JX,JY,JZ,Y0,Y1,Y2,Y3,Y4,Y5,Y6,Y7,Y8,Y9,Ya,Yb,Yc,Yd,Ye,Yf,Yg,Yh,Yi,Yj,Yk,Yl,Ym,Yn,Yo,Yp,Yq,ial,Yr,Ys,Yt,Yu,Yv,Yw,Yx,Yy,ires,iresL,ires1,Yz,YA,YB,YC,YD,YE,bin2,YF,YG,YH,YI,YJ,YK,YL,YM,YN,YO,YP,YQ,YR,YS,YT,YU,un1,shOk,eqL,eq1,fillL,putAt,IHeap.load1,IHeap.loadL,IHeap.storeL,YV,YW,YX,YY,YZ,B0,B1,B2,B3,B4,B5,B6,B7,B8,B9,Ba,Bb,Bc,Bd,Be,Bf,Bg,Bh,Bi,Bj,Bk,Bl,Bm,Bn,Bo,Bp, b0]
  refine call_of (RPropose_none c hc ?_)
  simp -implicitDefEqProofs [J0,J1,J2,J3,J4,J5,J6,J7,J8,J9,Ja,Jb,Jc,Jd,Je,Jf,Jg,Jh,Ji,Jj,Jk,Jl,Jm,Jn,Jo,Jp,Jq,Jr,Js,Jt,Ju,Jv,Jw,Jx,Jy,Jz,JA,JB,JC,JD,JE,JF,JG,JH,JI,JJ,JK,JL,JM,JN,JO,JP,JQ,JR,JS,stillI,IOp.kind,JT,JU,JV,JW,JX,JY,JZ,Y0,Y1,Y2,Y3,Y4,Y5,Y6,Y7,Y8,Y9,Ya,Yb,Yc,Yd,Ye,Yf,Yg,Yh,Yi,Yj,Yk,Yl,Ym,Yn,Yo,Yp,Yq,ial,Yr,Ys,Yt,Yu,Yv,Yw,Yx,Yy,ires,iresL,ires1,Yz,YA,YB,YC,YD,YE,bin2,YF,YG,YH,YI,YJ,YK,YL,YM,YN,YO,YP,YQ,YR,YS,YT,YU,un1,shOk,eqL,eq1,fillL,putAt,IHeap.load1,IHeap.loadL,IHeap.storeL,YV,YW,YX,YY,YZ,B0,B1,B2,B3,B4,B5,B6,B7,B8,B9,Ba,Bb,Bc,Bd,Be,Bf,Bg,Bh,Bi,Bj,Bk,Bl,Bm,Bn,Bo,Bp]
  refine call_of (RLead_none c hc ?_)
  simp -implicitDefEqProofs [J0,J1,J2,J3,J4,J5,J6,J7,J8,J9,Ja,Jb,Jc,Jd,Je,Jf,Jg,Jh,Ji,Jj,Jk,Jl,Jm,Jn,Jo,Jp,Jq,Jr,Js,Jt,Ju,Jv,Jw,Jx,Jy,Jz,JA,JB,JC,JD,JE,JF,JG,JH,JI,JJ,JK,JL,JM,JN,JO,JP,JQ,JR,JS,stillI,IOp.kind,JT,JU,JV,JW,JX,JY,JZ,Y0,Y1,Y2,Y3,Y4,Y5,Y6,Y7,Y8,Y9,Ya,Yb,Yc,Yd,Ye,Yf,Yg,Yh,Yi,Yj,Yk,Yl,Ym,Yn,Yo,Yp,Yq,ial,Yr,Ys,Yt,Yu,Yv,Yw,Yx,Yy,ires,iresL,ires1,Yz,YA,YB,YC,YD,YE,bin2,YF,YG,YH,YI,YJ,YK,YL,YM,YN,YO,YP,YQ,YR,YS,YT,YU,un1,shOk,eqL,eq1,fillL,putAt,IHeap.load1,IHeap.loadL,IHeap.storeL,YV,YW,YX,YY,YZ,B0,B1,B2,B3,B4,B5,B6,B7,B8,B9,Ba,Bb,Bc,Bd,Be,Bf,Bg,Bh,Bi,Bj,Bk,Bl,Bm,Bn,Bo,Bp, b0]
  refine call_of (RTake_none c hc fun H1 k1 => ?_)
  have b1 := (k1.get H.next (by omega)).trans b0
  simp -implicitDefEqProofs [J0,J1,J2,J3,J4,J5,J6,J7,J8,J9,Ja,Jb,Jc,Jd,Je,Jf,Jg,Jh,Ji,Jj,Jk,Jl,Jm,Jn,Jo,Jp,Jq,Jr,Js,Jt,Ju,Jv,Jw,Jx,Jy,Jz,JA,JB,JC,JD,JE,JF,JG,JH,JI,JJ,JK,JL,JM,JN,JO,JP,JQ,JR,JS,stillI,IOp.kind,JT,JU,JV,JW,JX,JY,JZ,Y0,Y1,Y2,Y3,Y4,Y5,Y6,Y7,Y8,Y9,Ya,Yb,Yc,Yd,Ye,Yf,Yg,Yh,Yi,Yj,Yk,Yl,Ym,Yn,Yo,Yp,Yq,ial,Yr,Ys,Yt,Yu,Yv,Yw,Yx,Yy,ires,iresL,ires1,Yz,YA,YB,YC,YD,YE,bin2,YF,YG,YH,YI,YJ,YK,YL,YM,YN,YO,YP,YQ,YR,YS,YT,YU,un1,shOk,eqL,eq1,fillL,putAt,IHeap.load1,IHeap.loadL,IHeap.storeL,YV,YW,YX,YY,YZ,B0,B1,B2,B3,B4,B5,B6,B7,B8,B9,Ba,Bb,Bc,Bd,Be,Bf,Bg,Bh,Bi,Bj,Bk,Bl,Bm,Bn,Bo,Bp, b1]
  refine call_of (RAsk_none c hc ?_)
  simp -implicitDefEqProofs [J0,J1,J2,J3,J4,J5,J6,J7,J8,J9,Ja,Jb,Jc,Jd,Je,Jf,Jg,Jh,Ji,Jj,Jk,Jl,Jm,Jn,Jo,Jp,Jq,Jr,Js,Jt,Ju,Jv,Jw,Jx,Jy,Jz,JA,JB,JC,JD,JE,JF,JG,JH,JI,JJ,JK,JL,JM,JN,JO,JP,JQ,JR,JS,stillI,IOp.kind,JT,JU,JV,JW,JX,JY,JZ,Y0,Y1,Y2,Y3,Y4,Y5,Y6,Y7,Y8,Y9,Ya,Yb,Yc,Yd,Ye,Yf,Yg,Yh,Yi,Yj,Yk,Yl,Ym,Yn,Yo,Yp,Yq,ial,Yr,Ys,Yt,Yu,Yv,Yw,Yx,Yy,ires,iresL,ires1,Yz,YA,YB,YC,YD,YE,bin2,YF,YG,YH,YI,YJ,YK,YL,YM,YN,YO,YP,YQ,YR,YS,YT,YU,un1,shOk,eqL,eq1,fillL,putAt,IHeap.load1,IHeap.loadL,IHeap.storeL,YV,YW,YX,YY,YZ,B0,B1,B2,B3,B4,B5,B6,B7,B8,B9,Ba,Bb,Bc,Bd,Be,Bf,Bg,Bh,Bi,Bj,Bk,Bl,Bm,Bn,Bo,Bp, b1]
  refine call_of (RTrim_none c hc ?_)
  simp -implicitDefEqProofs [J0,J1,J2,J3,J4,J5,J6,J7,J8,J9,Ja,Jb,Jc,Jd,Je,Jf,Jg,Jh,Ji,Jj,Jk,Jl,Jm,Jn,Jo,Jp,Jq,Jr,Js,Jt,Ju,Jv,Jw,Jx,Jy,Jz,JA,JB,JC,JD,JE,JF,JG,JH,JI,JJ,JK,JL,JM,JN,JO,JP,JQ,JR,JS,stillI,IOp.kind,JT,JU,JV,JW,JX,JY,JZ,Y0,Y1,Y2,Y3,Y4,Y5,Y6,Y7,Y8,Y9,Ya,Yb,Yc,Yd,Ye,Yf,Yg,Yh,Yi,Yj,Yk,Yl,Ym,Yn,Yo,Yp,Yq,ial,Yr,Ys,Yt,Yu,Yv,Yw,Yx,Yy,ires,iresL,ires1,Yz,YA,YB,YC,YD,YE,bin2,YF,YG,YH,YI,YJ,YK,YL,YM,YN,YO,YP,YQ,YR,YS,YT,YU,un1,shOk,eqL,eq1,fillL,putAt,IHeap.load1,IHeap.loadL,IHeap.storeL,YV,YW,YX,YY,YZ,B0,B1,B2,B3,B4,B5,B6,B7,B8,B9,Ba,Bb,Bc,Bd,Be,Bf,Bg,Bh,Bi,Bj,Bk,Bl,Bm,Bn,Bo,Bp]
  refine call_of (RLog_none c hc ?_)
  simp -implicitDefEqProofs [J0,J1,J2,J3,J4,J5,J6,J7,J8,J9,Ja,Jb,Jc,Jd,Je,Jf,Jg,Jh,Ji,Jj,Jk,Jl,Jm,Jn,Jo,Jp,Jq,Jr,Js,Jt,Ju,Jv,Jw,Jx,Jy,Jz,JA,JB,JC,JD,JE,JF,JG,JH,JI,JJ,JK,JL,JM,JN,JO,JP,JQ,JR,JS,stillI,IOp.kind,JT,JU,JV,JW,JX,JY,JZ,Y0,Y1,Y2,Y3,Y4,Y5,Y6,Y7,Y8,Y9,Ya,Yb,Yc,Yd,Ye,Yf,Yg,Yh,Yi,Yj,Yk,Yl,Ym,Yn,Yo,Yp,Yq,ial,Yr,Ys,Yt,Yu,Yv,Yw,Yx,Yy,ires,iresL,ires1,Yz,YA,YB,YC,YD,YE,bin2,YF,YG,YH,YI,YJ,YK,YL,YM,YN,YO,YP,YQ,YR,YS,YT,YU,un1,shOk,eqL,eq1,fillL,putAt,IHeap.load1,IHeap.loadL,IHeap.storeL,YV,YW,YX,YY,YZ,B0,B1,B2,B3,B4,B5,B6,B7,B8,B9,Ba,Bb,Bc,Bd,Be,Bf,Bg,Bh,Bi,Bj,Bk,Bl,Bm,Bn,Bo,Bp]
  refine call_of (RNext_none c hc ?_)
  simp -implicitDefEqProofs [J0,J1,J2,J3,J4,J5,J6,J7,J8,J9,Ja,Jb,Jc,Jd,Je,Jf,Jg,Jh,Ji,Jj,Jk,Jl,Jm,Jn,Jo,Jp,Jq,Jr,Js,Jt,Ju,Jv,Jw,Jx,Jy,Jz,JA,JB,JC,JD,JE,JF,JG,JH,JI,JJ,JK,JL,JM,JN,JO,JP,JQ,JR,JS,stillI,IOp.kind,JT,JU,JV,JW,JX,JY,JZ,Y0,Y1,Y2,Y3,Y4,Y5,Y6,Y7,Y8,Y9,Ya,Yb,Yc,Yd,Ye,Yf,Yg,Yh,Yi,Yj,Yk,Yl,Ym,Yn,Yo,Yp,Yq,ial,Yr,Ys,Yt,Yu,Yv,Yw,Yx,Yy,ires,iresL,ires1,Yz,YA,YB,YC,YD,YE,bin2,YF,YG,YH,YI,YJ,YK,YL,YM,YN,YO,YP,YQ,YR,YS,YT,YU,un1,shOk,eqL,eq1,fillL,putAt,IHeap.load1,IHeap.loadL,IHeap.storeL,YV,YW,YX,YY,YZ,B0,B1,B2,B3,B4,B5,B6,B7,B8,B9,Ba,Bb,Bc,Bd,Be,Bf,Bg,Bh,Bi,Bj,Bk,Bl,Bm,Bn,Bo,Bp]
  refine call_of (RLeads_none c hc ?_)
  simp -implicitDefEqProofs [J0,J1,J2,J3,J4,J5,J6,J7,J8,J9,Ja,Jb,Jc,Jd,Je,Jf,Jg,Jh,Ji,Jj,Jk,Jl,Jm,Jn,Jo,Jp,Jq,Jr,Js,Jt,Ju,Jv,Jw,Jx,Jy,Jz,JA,JB,JC,JD,JE,JF,JG,JH,JI,JJ,JK,JL,JM,JN,JO,JP,JQ,JR,JS,stillI,IOp.kind,JT,JU,JV,JW,JX,JY,JZ,Y0,Y1,Y2,Y3,Y4,Y5,Y6,Y7,Y8,Y9,Ya,Yb,Yc,Yd,Ye,Yf,Yg,Yh,Yi,Yj,Yk,Yl,Ym,Yn,Yo,Yp,Yq,ial,Yr,Ys,Yt,Yu,Yv,Yw,Yx,Yy,ires,iresL,ires1,Yz,YA,YB,YC,YD,YE,bin2,YF,YG,YH,YI,YJ,YK,YL,YM,YN,YO,YP,YQ,YR,YS,YT,YU,un1,shOk,eqL,eq1,fillL,putAt,IHeap.load1,IHeap.loadL,IHeap.storeL,YV,YW,YX,YY,YZ,B0,B1,B2,B3,B4,B5,B6,B7,B8,B9,Ba,Bb,Bc,Bd,Be,Bf,Bg,Bh,Bi,Bj,Bk,Bl,Bm,Bn,Bo,Bp]
  refine call_of (hW _ _ fun H' => ?_)
  simp -implicitDefEqProofs [J0,J1,J2,J3,J4,J5,J6,J7,J8,J9,Ja,Jb,Jc,Jd,Je,Jf,Jg,Jh,Ji,Jj,Jk,Jl,Jm,Jn,Jo,Jp,Jq,Jr,Js,Jt,Ju,Jv,Jw,Jx,Jy,Jz,JA,JB,JC,JD,JE,JF,JG,JH,JI,JJ,JK,JL,JM,JN,JO,JP,JQ,JR,JS,stillI,IOp.kind,JT,JU,JV,JW,JX,JY,JZ,Y0,Y1,Y2,Y3,Y4,Y5,Y6,Y7,Y8,Y9,Ya,Yb,Yc,Yd,Ye,Yf,Yg,Yh,Yi,Yj,Yk,Yl,Ym,Yn,Yo,Yp,Yq,ial,Yr,Ys,Yt,Yu,Yv,Yw,Yx,Yy,ires,iresL,ires1,Yz,YA,YB,YC,YD,YE,bin2,YF,YG,YH,YI,YJ,YK,YL,YM,YN,YO,YP,YQ,YR,YS,YT,YU,un1,shOk,eqL,eq1,fillL,putAt,IHeap.load1,IHeap.loadL,IHeap.storeL,YV,YW,YX,YY,YZ,B0,B1,B2,B3,B4,B5,B6,B7,B8,B9,Ba,Bb,Bc,Bd,Be,Bf,Bg,Bh,Bi,Bj,Bk,Bl,Bm,Bn,Bo,Bp]
  exact hK _
end
end Go.Proofs.YtfmjbmddghjjmaaI
