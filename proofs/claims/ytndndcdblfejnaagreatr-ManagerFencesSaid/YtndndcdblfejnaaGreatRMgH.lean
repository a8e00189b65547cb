/- PRINTED by gen.py (this session's own): the intermediate form of some functions, and a context's having them. / PRINTED by gen.py (this session's own): the intermediate form of some functions, and a context's having them. / PRINTED by gen.py (this session's own): the intermediate form of some functions, and a context's having them. / What managers agree on: plain model. / Managers: plain laws. / Commands and answers as bytes: what each function does. / Managers: what stays bounded; a text done twice. -/
import Derived.Test.YtndndcdblfejnaaGreatRInsV3
import Derived.Test.YtndndcdblfejnaaGreatRFarM
import Derived.Test.YtndndcdblfejnaaGreatRSmDM
import Derived.Test.YtndndcdblfejnaaGreatRUseFM
namespace Go.Proofs.YtndndcdblfejnaaGreatRI
set_option linter.unusedSimpArgs false
set_option linter.unusedVariables false
open Go

/-- hurdle/imap.New -/
abbrev n_imap_New : Nat := 385
/-- hurdle/imap.may -/
abbrev n_imap_may : Nat := 386
/-- hurdle/imap.spot -/
abbrev n_imap_spot : Nat := 387
/-- (*hurdle/imap.Map).Get -/
abbrev n_imap_Map_Get : Nat := 388
/-- (*hurdle/imap.Map).Move -/
abbrev n_imap_Map_Move : Nat := 389
/-- hurdle/lease.New -/
abbrev n_lease_New : Nat := 390
/-- (*hurdle/lease.Leases).Grant -/
abbrev n_lease_Leases_Grant : Nat := 391
/-- (*hurdle/lease.Leases).Drop -/
abbrev n_lease_Leases_Drop : Nat := 392
/-- hurdle/imap.New -/
def c_imap_New (F : Nat → FuncId) (Ty : Nat → TypeId) : IFunc := ⟨3, [.tmp 0],
 .seq (.ops [⟨some 0, .move (.const (.pointer none)), none⟩])
 (.seq (.ops [⟨some 1, .build (List.replicate 1024 (.int .i64 0)) [], none⟩,
 ⟨some 2, .box (.tmp 1), none⟩,
 ⟨some 0, .move (.tmp 2), none⟩])
 (.ret))⟩
/-- hurdle/imap.may -/
def c_imap_may (F : Nat → FuncId) (Ty : Nat → TypeId) : IFunc := ⟨9, [.tmp 2],
 .seq (.ops [⟨some 2, .move (.const (.bool false)), none⟩])
 (.seq (.ops [⟨some 3, .move (.tmp 0), none⟩,
 ⟨some 4, .bin .geq (.tmp 3) (.const (.int .i64 1)), none⟩,
 ⟨some 5, .move (.tmp 4), none⟩,
 ⟨some 6, .move (.tmp 0), some (5, true)⟩,
 ⟨some 7, .bin .lss (.tmp 6) (.const (.int .i64 256)), some (5, true)⟩,
 ⟨some 8, .pick (.tmp 5) (.tmp 7) (.const (.bool false)), none⟩,
 ⟨some 2, .move (.tmp 8), none⟩])
 (.ret))⟩
/-- hurdle/imap.spot -/
def c_imap_spot (F : Nat → FuncId) (Ty : Nat → TypeId) : IFunc := ⟨31, [.tmp 2],
 .seq (.ops [⟨some 1, .box (.tmp 0), none⟩,
 ⟨some 2, .move (.const (.bool false)), none⟩])
 (.seq (.ops [⟨some 3, .fieldAddr 0 (.tmp 1), none⟩,
 ⟨some 4, .load1 (.tmp 3), none⟩,
 ⟨some 5, .bin .geq (.tmp 4) (.const (.int .i64 0)), none⟩,
 ⟨some 6, .move (.tmp 5), none⟩,
 ⟨some 7, .fieldAddr 0 (.tmp 1), some (6, true)⟩,
 ⟨some 8, .load1 (.tmp 7), some (6, true)⟩,
 ⟨some 9, .bin .lss (.tmp 8) (.const (.int .i64 4096)), some (6, true)⟩,
 ⟨some 10, .pick (.tmp 6) (.tmp 9) (.const (.bool false)), none⟩,
 ⟨some 11, .move (.tmp 10), none⟩,
 ⟨some 12, .fieldAddr 1 (.tmp 1), some (11, true)⟩,
 ⟨some 13, .load1 (.tmp 12), some (11, true)⟩,
 ⟨some 14, .bin .geq (.tmp 13) (.const (.int .i64 0)), some (11, true)⟩,
 ⟨some 15, .pick (.tmp 11) (.tmp 14) (.const (.bool false)), none⟩,
 ⟨some 16, .move (.tmp 15), none⟩,
 ⟨some 17, .fieldAddr 1 (.tmp 1), some (16, true)⟩,
 ⟨some 18, .load1 (.tmp 17), some (16, true)⟩,
 ⟨some 19, .bin .leq (.tmp 18) (.const (.int .i64 65536)), some (16, true)⟩,
 ⟨some 20, .pick (.tmp 16) (.tmp 19) (.const (.bool false)), none⟩,
 ⟨some 21, .move (.tmp 20), none⟩,
 ⟨some 22, .fieldAddr 2 (.tmp 1), some (21, true)⟩,
 ⟨some 23, .load1 (.tmp 22), some (21, true)⟩,
 ⟨some 24, .bin .geq (.tmp 23) (.const (.int .i64 0)), some (21, true)⟩,
 ⟨some 25, .pick (.tmp 21) (.tmp 24) (.const (.bool false)), none⟩,
 ⟨some 26, .move (.tmp 25), none⟩,
 ⟨some 27, .fieldAddr 2 (.tmp 1), some (26, true)⟩,
 ⟨some 28, .load1 (.tmp 27), some (26, true)⟩,
 ⟨some 29, .bin .leq (.tmp 28) (.const (.int .i64 65536)), some (26, true)⟩,
 ⟨some 30, .pick (.tmp 26) (.tmp 29) (.const (.bool false)), none⟩,
 ⟨some 2, .move (.tmp 30), none⟩])
 (.ret))⟩
/-- (*hurdle/imap.Map).Get -/
def c_imap_Map_Get (F : Nat → FuncId) (Ty : Nat → TypeId) : IFunc := ⟨30, [.cellN 4 4, .tmp 5],
 .seq (.ops [⟨some 4, .alloc [.int .i64 0, .int .i64 0, .int .i64 0, .int .i64 0], none⟩,
 ⟨some 5, .move (.const (.bool false)), none⟩])
 (.seq (.seq (.ops [⟨some 6, .move (.tmp 0), none⟩,
 ⟨some 7, .eqNil 0 false (.tmp 6), none⟩,
 ⟨some 8, .move (.tmp 7), none⟩,
 ⟨some 9, .move (.tmp 1), some (8, false)⟩,
 ⟨some 10, .call (F 386) [.tmp 9], some (8, false)⟩,
 ⟨some 11, .un .not (.tmp 10), some (8, false)⟩,
 ⟨some 12, .pick (.tmp 8) (.const (.bool true)) (.tmp 11), none⟩,
 ⟨some 13, .move (.tmp 12), none⟩,
 ⟨some 14, .move (.tmp 0), some (13, false)⟩,
 ⟨some 15, .move (.tmp 1), some (13, false)⟩,
 ⟨some 16, .nilCheck (.tmp 14), some (13, false)⟩,
 ⟨some 17, .fieldAddr 0 (.tmp 16), some (13, false)⟩,
 ⟨some 18, .idxArr 256 4 (.tmp 17) (.tmp 15), some (13, false)⟩,
 ⟨some 19, .fieldAddr 3 (.tmp 18), some (13, false)⟩,
 ⟨some 20, .load1 (.tmp 19), some (13, false)⟩,
 ⟨some 21, .bin .eql (.tmp 20) (.const (.int .i64 0)), some (13, false)⟩,
 ⟨some 22, .pick (.tmp 13) (.const (.bool true)) (.tmp 21), none⟩])
 (.cond (.tmp 22)
 (.seq (.ops [⟨some 23, .build [.int .i64 0, .int .i64 0, .int .i64 0, .int .i64 0] [], none⟩,
 ⟨none, .store 4 (.tmp 4) (.tmp 23), none⟩,
 ⟨some 5, .move (.const (.bool false)), none⟩])
 (.ret))
 (.skip)))
 (.seq (.ops [⟨some 24, .move (.tmp 0), none⟩,
 ⟨some 25, .move (.tmp 1), none⟩,
 ⟨some 26, .nilCheck (.tmp 24), none⟩,
 ⟨some 27, .fieldAddr 0 (.tmp 26), none⟩,
 ⟨some 28, .idxArr 256 4 (.tmp 27) (.tmp 25), none⟩,
 ⟨some 29, .loadN 4 (.tmp 28), none⟩,
 ⟨none, .store 4 (.tmp 4) (.tmp 29), none⟩,
 ⟨some 5, .move (.const (.bool true)), none⟩])
 (.ret)))⟩
/-- (*hurdle/imap.Map).Move -/
def c_imap_Map_Move (F : Nat → FuncId) (Ty : Nat → TypeId) : IFunc := ⟨46, [.tmp 8, .tmp 9],
 .seq (.ops [⟨some 7, .box (.tmp 3), none⟩,
 ⟨some 8, .move (.const (.int .i64 0)), none⟩,
 ⟨some 9, .move (.const (.int .i64 0)), none⟩])
 (.seq (.seq (.ops [⟨some 11, .move (.tmp 0), none⟩,
 ⟨some 12, .eqNil 0 false (.tmp 11), none⟩,
 ⟨some 13, .move (.tmp 12), none⟩,
 ⟨some 14, .move (.tmp 1), some (13, false)⟩,
 ⟨some 15, .call (F 386) [.tmp 14], some (13, false)⟩,
 ⟨some 16, .un .not (.tmp 15), some (13, false)⟩,
 ⟨some 17, .pick (.tmp 13) (.const (.bool true)) (.tmp 16), none⟩,
 ⟨some 18, .move (.tmp 17), none⟩,
 ⟨some 19, .loadN 4 (.tmp 7), some (18, false)⟩,
 ⟨some 20, .call (F 387) [.tmp 19], some (18, false)⟩,
 ⟨some 21, .un .not (.tmp 20), some (18, false)⟩,
 ⟨some 22, .pick (.tmp 18) (.const (.bool true)) (.tmp 21), none⟩])
 (.cond (.tmp 22)
 (.seq (.ops [⟨some 8, .move (.const (.int .i64 0)), none⟩,
 ⟨some 9, .move (.const (.int .i64 1)), none⟩])
 (.ret))
 (.skip)))
 (.seq (.ops [⟨some 23, .move (.tmp 0), none⟩,
 ⟨some 24, .move (.tmp 1), none⟩,
 ⟨some 25, .nilCheck (.tmp 23), none⟩,
 ⟨some 26, .fieldAddr 0 (.tmp 25), none⟩,
 ⟨some 27, .idxArr 256 4 (.tmp 26) (.tmp 24), none⟩,
 ⟨some 10, .move (.tmp 27), none⟩])
 (.seq (.seq (.ops [⟨some 28, .move (.tmp 10), none⟩,
 ⟨some 29, .nilCheck (.tmp 28), none⟩,
 ⟨some 30, .fieldAddr 3 (.tmp 29), none⟩,
 ⟨some 31, .load1 (.tmp 30), none⟩,
 ⟨some 32, .move (.tmp 2), none⟩,
 ⟨some 33, .bin .neq (.tmp 31) (.tmp 32), none⟩])
 (.cond (.tmp 33)
 (.seq (.ops [⟨some 8, .move (.const (.int .i64 0)), none⟩,
 ⟨some 9, .move (.const (.int .i64 10)), none⟩])
 (.ret))
 (.skip)))
 (.seq (.ops [⟨some 34, .move (.tmp 10), none⟩,
 ⟨some 35, .loadN 4 (.tmp 7), none⟩,
 ⟨some 36, .nilCheck (.tmp 34), none⟩,
 ⟨none, .store 4 (.tmp 36) (.tmp 35), none⟩])
 (.seq (.ops [⟨some 37, .move (.tmp 10), none⟩,
 ⟨some 38, .move (.tmp 2), none⟩,
 ⟨some 39, .bin .add (.tmp 38) (.const (.int .i64 1)), none⟩,
 ⟨some 40, .nilCheck (.tmp 37), none⟩,
 ⟨some 41, .fieldAddr 3 (.tmp 40), none⟩,
 ⟨none, .store 1 (.tmp 41) (.tmp 39), none⟩])
 (.seq (.ops [⟨some 42, .move (.tmp 10), none⟩,
 ⟨some 43, .nilCheck (.tmp 42), none⟩,
 ⟨some 44, .fieldAddr 3 (.tmp 43), none⟩,
 ⟨some 45, .load1 (.tmp 44), none⟩,
 ⟨some 8, .move (.tmp 45), none⟩,
 ⟨some 9, .move (.const (.int .i64 0)), none⟩])
 (.ret)))))))⟩
/-- hurdle/lease.New -/
def c_lease_New (F : Nat → FuncId) (Ty : Nat → TypeId) : IFunc := ⟨4, [.tmp 0],
 .seq (.ops [⟨some 0, .move (.const (.pointer none)), none⟩])
 (.seq (.ops [⟨some 1, .mkMap, none⟩,
 ⟨some 2, .build [.map none, .int .i64 0] [((0, 1), .tmp 1)], none⟩,
 ⟨some 3, .box (.tmp 2), none⟩,
 ⟨some 0, .move (.tmp 3), none⟩])
 (.ret))⟩
/-- (*hurdle/lease.Leases).Grant -/
def c_lease_Leases_Grant (F : Nat → FuncId) (Ty : Nat → TypeId) : IFunc := ⟨96, [.cellN 10 4, .tmp 11],
 .seq (.ops [⟨some 10, .alloc [.int .i64 0, .int .i64 0, .int .i64 0, .int .i64 0], none⟩,
 ⟨some 11, .move (.const (.int .i64 0)), none⟩])
 (.seq (.seq (.ops [⟨some 14, .move (.tmp 0), none⟩,
 ⟨some 15, .eqNil 0 false (.tmp 14), none⟩,
 ⟨some 16, .move (.tmp 15), none⟩,
 ⟨some 17, .move (.tmp 1), some (16, false)⟩,
 ⟨some 18, .bin .lss (.tmp 17) (.const (.int .i64 1)), some (16, false)⟩,
 ⟨some 19, .pick (.tmp 16) (.const (.bool true)) (.tmp 18), none⟩,
 ⟨some 20, .move (.tmp 19), none⟩,
 ⟨some 21, .move (.tmp 1), some (20, false)⟩,
 ⟨some 22, .bin .geq (.tmp 21) (.const (.int .i64 256)), some (20, false)⟩,
 ⟨some 23, .pick (.tmp 20) (.const (.bool true)) (.tmp 22), none⟩,
 ⟨some 24, .move (.tmp 23), none⟩,
 ⟨some 25, .move (.tmp 2), some (24, false)⟩,
 ⟨some 26, .bin .lss (.tmp 25) (.const (.int .i64 0)), some (24, false)⟩,
 ⟨some 27, .pick (.tmp 24) (.const (.bool true)) (.tmp 26), none⟩,
 ⟨some 28, .move (.tmp 27), none⟩,
 ⟨some 29, .move (.tmp 2), some (28, false)⟩,
 ⟨some 30, .bin .geq (.tmp 29) (.const (.int .i64 16)), some (28, false)⟩,
 ⟨some 31, .pick (.tmp 28) (.const (.bool true)) (.tmp 30), none⟩,
 ⟨some 32, .move (.tmp 31), none⟩,
 ⟨some 33, .move (.tmp 3), some (32, false)⟩,
 ⟨some 34, .bin .lss (.tmp 33) (.const (.int .i64 0)), some (32, false)⟩,
 ⟨some 35, .pick (.tmp 32) (.const (.bool true)) (.tmp 34), none⟩,
 ⟨some 36, .move (.tmp 35), none⟩,
 ⟨some 37, .move (.tmp 3), some (36, false)⟩,
 ⟨some 38, .bin .gtr (.tmp 37) (.const (.int .i64 1099511627776)), some (36, false)⟩,
 ⟨some 39, .pick (.tmp 36) (.const (.bool true)) (.tmp 38), none⟩,
 ⟨some 40, .move (.tmp 39), none⟩,
 ⟨some 41, .move (.tmp 4), some (40, false)⟩,
 ⟨some 42, .bin .lss (.tmp 41) (.const (.int .i64 1)), some (40, false)⟩,
 ⟨some 43, .pick (.tmp 40) (.const (.bool true)) (.tmp 42), none⟩,
 ⟨some 44, .move (.tmp 43), none⟩,
 ⟨some 45, .move (.tmp 4), some (44, false)⟩,
 ⟨some 46, .bin .gtr (.tmp 45) (.const (.int .i64 1000000)), some (44, false)⟩,
 ⟨some 47, .pick (.tmp 44) (.const (.bool true)) (.tmp 46), none⟩])
 (.cond (.tmp 47)
 (.seq (.ops [⟨some 48, .build [.int .i64 0, .int .i64 0, .int .i64 0, .int .i64 0] [], none⟩,
 ⟨none, .store 4 (.tmp 10) (.tmp 48), none⟩,
 ⟨some 11, .move (.const (.int .i64 1)), none⟩])
 (.ret))
 (.skip)))
 (.seq (.ops [⟨some 49, .move (.tmp 0), none⟩,
 ⟨some 50, .nilCheck (.tmp 49), none⟩,
 ⟨some 51, .fieldAddr 0 (.tmp 50), none⟩,
 ⟨some 52, .load1 (.tmp 51), none⟩,
 ⟨some 53, .move (.tmp 1), none⟩,
 ⟨some 54, .lookup (Ty 2) (.agg #[.int .i64 0, .int .i64 0, .int .i64 0, .int .i64 0]) false (.tmp 52) (.tmp 53), none⟩,
 ⟨some 55, .move (.tmp 3), none⟩,
 ⟨some 56, .move (.tmp 4), none⟩,
 ⟨some 57, .bin .add (.tmp 55) (.tmp 56), none⟩,
 ⟨some 12, .alloc [.int .i64 0, .int .i64 0, .int .i64 0, .int .i64 0], none⟩,
 ⟨none, .store 4 (.tmp 12) (.tmp 54), none⟩,
 ⟨some 13, .move (.tmp 57), none⟩])
 (.seq (.block 0 (.seq (.ops [⟨some 64, .fieldAddr 2 (.tmp 12), none⟩,
 ⟨some 65, .load1 (.tmp 64), none⟩,
 ⟨some 66, .move (.tmp 3), none⟩,
 ⟨some 67, .bin .leq (.tmp 65) (.tmp 66), none⟩,
 ⟨some 63, .move (.tmp 67), none⟩])
 (.cond (.tmp 63)
 (.seq (.ops [⟨some 68, .move (.tmp 0), none⟩,
 ⟨some 69, .nilCheck (.tmp 68), none⟩,
 ⟨some 70, .fieldAddr 1 (.tmp 69), none⟩,
 ⟨some 71, .load1 (.tmp 70), none⟩,
 ⟨some 72, .bin .add (.tmp 71) (.const (.int .i64 1)), none⟩,
 ⟨some 73, .nilCheck (.tmp 68), none⟩,
 ⟨some 74, .fieldAddr 1 (.tmp 73), none⟩,
 ⟨none, .store 1 (.tmp 74) (.tmp 72), none⟩])
 (.ops [⟨some 75, .move (.tmp 1), none⟩,
 ⟨some 76, .move (.tmp 2), none⟩,
 ⟨some 77, .move (.tmp 13), none⟩,
 ⟨some 78, .move (.tmp 0), none⟩,
 ⟨some 79, .nilCheck (.tmp 78), none⟩,
 ⟨some 80, .fieldAddr 1 (.tmp 79), none⟩,
 ⟨some 81, .load1 (.tmp 80), none⟩,
 ⟨some 82, .build [.int .i64 0, .int .i64 0, .int .i64 0, .int .i64 0] [((0, 1), .tmp 75), ((1, 1), .tmp 76), ((2, 1), .tmp 77), ((3, 1), .tmp 81)], none⟩,
 ⟨none, .store 4 (.tmp 12) (.tmp 82), none⟩]))
 (.seq (.ops [⟨some 84, .fieldAddr 1 (.tmp 12), none⟩,
 ⟨some 85, .load1 (.tmp 84), none⟩,
 ⟨some 86, .move (.tmp 2), none⟩,
 ⟨some 87, .bin .neq (.tmp 85) (.tmp 86), none⟩,
 ⟨some 83, .move (.tmp 87), none⟩])
 (.cond (.tmp 83)
 (.seq (.ops [⟨some 88, .build [.int .i64 0, .int .i64 0, .int .i64 0, .int .i64 0] [], none⟩,
 ⟨none, .store 4 (.tmp 10) (.tmp 88), none⟩,
 ⟨some 11, .move (.const (.int .i64 11)), none⟩])
 (.ret))
 (.ops [⟨some 58, .fieldAddr 2 (.tmp 12), none⟩,
 ⟨some 59, .load1 (.tmp 58), none⟩,
 ⟨some 60, .move (.tmp 13), none⟩,
 ⟨some 61, .mxn true (.tmp 59) (.tmp 60), none⟩,
 ⟨some 62, .fieldAddr 2 (.tmp 12), none⟩,
 ⟨none, .store 1 (.tmp 62) (.tmp 61), none⟩]))))))
 (.seq (.draw [(⟨some 89, .move (.tmp 0), none⟩, []),
 (⟨some 90, .nilCheck (.tmp 89), none⟩, []),
 (⟨some 91, .fieldAddr 0 (.tmp 90), none⟩, []),
 (⟨some 92, .load1 (.tmp 91), none⟩, []),
 (⟨some 93, .move (.tmp 1), none⟩, []),
 (⟨some 94, .loadN 4 (.tmp 12), none⟩, []),
 (⟨none, .mapUpdate (Ty 2) (.tmp 92) (.tmp 93) (.tmp 94), none⟩, [])])
 (.seq (.ops [⟨some 95, .loadN 4 (.tmp 12), none⟩,
 ⟨none, .store 4 (.tmp 10) (.tmp 95), none⟩,
 ⟨some 11, .move (.const (.int .i64 0)), none⟩])
 (.ret))))))⟩
/-- (*hurdle/lease.Leases).Drop -/
def c_lease_Leases_Drop (F : Nat → FuncId) (Ty : Nat → TypeId) : IFunc := ⟨37, [.tmp 8],
 .seq (.ops [⟨some 8, .move (.const (.int .i64 0)), none⟩])
 (.seq (.seq (.ops [⟨some 11, .move (.tmp 0), none⟩,
 ⟨some 12, .eqNil 0 false (.tmp 11), none⟩])
 (.cond (.tmp 12)
 (.seq (.ops [⟨some 8, .move (.const (.int .i64 1)), none⟩])
 (.ret))
 (.skip)))
 (.seq (.ops [⟨some 14, .move (.tmp 0), none⟩,
 ⟨some 15, .nilCheck (.tmp 14), none⟩,
 ⟨some 16, .fieldAddr 0 (.tmp 15), none⟩,
 ⟨some 17, .load1 (.tmp 16), none⟩,
 ⟨some 18, .move (.tmp 1), none⟩,
 ⟨some 19, .lookup (Ty 2) (.agg #[.int .i64 0, .int .i64 0, .int .i64 0, .int .i64 0]) true (.tmp 17) (.tmp 18), none⟩,
 ⟨some 13, .move (.tmp 19), none⟩,
 ⟨some 20, .extract (.tmp 13) 0, none⟩,
 ⟨some 21, .extract (.tmp 13) 1, none⟩,
 ⟨some 9, .alloc [.int .i64 0, .int .i64 0, .int .i64 0, .int .i64 0], none⟩,
 ⟨none, .store 4 (.tmp 9) (.tmp 20), none⟩,
 ⟨some 10, .move (.tmp 21), none⟩])
 (.seq (.seq (.ops [⟨some 22, .move (.tmp 10), none⟩,
 ⟨some 23, .un .not (.tmp 22), none⟩])
 (.cond (.tmp 23)
 (.seq (.ops [⟨some 8, .move (.const (.int .i64 7)), none⟩])
 (.ret))
 (.skip)))
 (.seq (.seq (.ops [⟨some 24, .loadN 4 (.tmp 9), none⟩,
 ⟨some 25, .move (.tmp 1), none⟩,
 ⟨some 26, .move (.tmp 2), none⟩,
 ⟨some 27, .fieldAddr 2 (.tmp 9), none⟩,
 ⟨some 28, .load1 (.tmp 27), none⟩,
 ⟨some 29, .move (.tmp 3), none⟩,
 ⟨some 30, .build [.int .i64 0, .int .i64 0, .int .i64 0, .int .i64 0] [((0, 1), .tmp 25), ((1, 1), .tmp 26), ((2, 1), .tmp 28), ((3, 1), .tmp 29)], none⟩,
 ⟨some 31, .eqv true [.i .i64, .i .i64, .i .i64, .i .i64] (.tmp 24) (.tmp 30), none⟩])
 (.cond (.tmp 31)
 (.seq (.ops [⟨some 8, .move (.const (.int .i64 11)), none⟩])
 (.ret))
 (.skip)))
 (.seq (.ops [⟨some 32, .move (.tmp 0), none⟩,
 ⟨some 33, .nilCheck (.tmp 32), none⟩,
 ⟨some 34, .fieldAddr 0 (.tmp 33), none⟩,
 ⟨some 35, .load1 (.tmp 34), none⟩,
 ⟨some 36, .move (.tmp 1), none⟩,
 ⟨none, .delete (Ty 2) (.tmp 35) (.tmp 36), none⟩])
 (.seq (.ops [⟨some 8, .move (.const (.int .i64 0)), none⟩])
 (.ret)))))))⟩
/-- A context has these functions. -/
structure HasImap28 (c : Ctx) : Prop where
 imap_New : c.IP (c.F 385) = some (c_imap_New c.F c.Ty)
 imap_may : c.IP (c.F 386) = some (c_imap_may c.F c.Ty)
 imap_spot : c.IP (c.F 387) = some (c_imap_spot c.F c.Ty)
 imap_Map_Get : c.IP (c.F 388) = some (c_imap_Map_Get c.F c.Ty)
 imap_Map_Move : c.IP (c.F 389) = some (c_imap_Map_Move c.F c.Ty)
 lease_New : c.IP (c.F 390) = some (c_lease_New c.F c.Ty)
 lease_Leases_Grant : c.IP (c.F 391) = some (c_lease_Leases_Grant c.F c.Ty)
 lease_Leases_Drop : c.IP (c.F 392) = some (c_lease_Leases_Drop c.F c.Ty)

end Go.Proofs.YtndndcdblfejnaaGreatRI
namespace Go.Proofs.YtndndcdblfejnaaGreatRI
set_option linter.unusedSimpArgs false
set_option linter.unusedVariables false
open Go

/-- hurdle/manager.New -/
abbrev n_manager_New : Nat := 393
/-- hurdle/manager.ints -/
abbrev n_manager_ints : Nat := 394
/-- hurdle/manager.Encode -/
abbrev n_manager_Encode : Nat := 395
/-- hurdle/manager.Decode -/
abbrev n_manager_Decode : Nat := 396
/-- hurdle/manager.answer -/
abbrev n_manager_answer : Nat := 397
/-- hurdle/manager.Answer -/
abbrev n_manager_Answer : Nat := 398
/-- hurdle/manager.does -/
abbrev n_manager_does : Nat := 399
/-- (*hurdle/manager.Manager).Do -/
abbrev n_manager_Manager_Do : Nat := 400
/-- (*hurdle/manager.Manager).Stripe -/
abbrev n_manager_Manager_Stripe : Nat := 401
/-- (*hurdle/manager.Manager).Spot -/
abbrev n_manager_Manager_Spot : Nat := 402
/-- (*hurdle/manager.Manager).Servers -/
abbrev n_manager_Manager_Servers : Nat := 403
/-- (*hurdle/manager.Manager).Epoch -/
abbrev n_manager_Manager_Epoch : Nat := 404
/-- (*hurdle/manager.Manager).Stripes -/
abbrev n_manager_Manager_Stripes : Nat := 405
/-- (*hurdle/manager.Manager).begin -/
abbrev n_manager_Manager_begin : Nat := 406
/-- (*hurdle/manager.Manager).commit -/
abbrev n_manager_Manager_commit : Nat := 407
/-- (*hurdle/manager.Manager).free -/
abbrev n_manager_Manager_free : Nat := 408
/-- (*hurdle/manager.Manager).move -/
abbrev n_manager_Manager_move : Nat := 409
/-- (*hurdle/manager.Manager).fail -/
abbrev n_manager_Manager_fail : Nat := 410
/-- (*hurdle/manager.Manager).swap -/
abbrev n_manager_Manager_swap : Nat := 411
/-- (*hurdle/manager.Manager).close -/
abbrev n_manager_Manager_close : Nat := 412
/-- (*hurdle/manager.Manager).grant -/
abbrev n_manager_Manager_grant : Nat := 413
/-- (*hurdle/manager.Manager).drop -/
abbrev n_manager_Manager_drop : Nat := 414
/-- hurdle/manager.New -/
def c_manager_New (F : Nat → FuncId) (Ty : Nat → TypeId) : IFunc := ⟨19, [.tmp 4],
 .seq (.ops [⟨some 4, .move (.const (.pointer none)), none⟩])
 (.seq (.ops [⟨some 6, .move (.tmp 0), none⟩,
 ⟨some 7, .move (.tmp 1), none⟩,
 ⟨some 8, .call (F 97) [.tmp 6, .tmp 7], none⟩,
 ⟨some 5, .move (.tmp 8), none⟩])
 (.seq (.seq (.ops [⟨some 9, .move (.tmp 5), none⟩,
 ⟨some 10, .eqNil 0 false (.tmp 9), none⟩])
 (.cond (.tmp 10)
 (.seq (.ops [⟨some 4, .move (.const (.pointer none)), none⟩])
 (.ret))
 (.skip)))
 (.seq (.ops [⟨some 11, .move (.tmp 5), none⟩,
 ⟨some 12, .call (F 132) [], none⟩,
 ⟨some 13, .call (F 385) [], none⟩,
 ⟨some 14, .call (F 237) [], none⟩,
 ⟨some 15, .call (F 390) [], none⟩,
 ⟨some 16, .call (F 375) [.const (.int .i64 4)], none⟩,
 ⟨some 17, .build [.pointer none, .pointer none, .pointer none, .pointer none, .pointer none, .pointer none, .int .i64 0] [((0, 1), .tmp 11), ((1, 1), .tmp 12), ((2, 1), .tmp 13), ((3, 1), .tmp 14), ((4, 1), .tmp 15), ((5, 1), .tmp 16)], none⟩,
 ⟨some 18, .box (.tmp 17), none⟩,
 ⟨some 4, .move (.tmp 18), none⟩])
 (.ret))))⟩
/-- hurdle/manager.ints -/
def c_manager_ints (F : Nat → FuncId) (Ty : Nat → TypeId) : IFunc := ⟨28, [.tmp 2],
 .seq (.ops [⟨some 2, .move (.const (.slice none 0 0)), none⟩])
 (.seq (.draw [(⟨some 3, .move (.tmp 0), none⟩, []),
 (⟨some 4, .nilCheck (.tmp 3), none⟩, []),
 (⟨some 5, .fieldAddr 0 (.tmp 4), none⟩, []),
 (⟨some 6, .move (.tmp 0), none⟩, []),
 (⟨some 7, .nilCheck (.tmp 6), none⟩, []),
 (⟨some 8, .fieldAddr 1 (.tmp 7), none⟩, []),
 (⟨some 9, .move (.tmp 0), none⟩, []),
 (⟨some 10, .nilCheck (.tmp 9), none⟩, []),
 (⟨some 11, .fieldAddr 2 (.tmp 10), none⟩, []),
 (⟨some 12, .move (.tmp 0), none⟩, []),
 (⟨some 13, .nilCheck (.tmp 12), none⟩, []),
 (⟨some 14, .fieldAddr 3 (.tmp 13), none⟩, []),
 (⟨some 15, .move (.tmp 0), none⟩, []),
 (⟨some 16, .nilCheck (.tmp 15), none⟩, []),
 (⟨some 17, .fieldAddr 4 (.tmp 16), none⟩, []),
 (⟨some 18, .move (.tmp 0), none⟩, []),
 (⟨some 19, .nilCheck (.tmp 18), none⟩, []),
 (⟨some 20, .fieldAddr 5 (.tmp 19), none⟩, []),
 (⟨some 21, .move (.tmp 0), none⟩, []),
 (⟨some 22, .nilCheck (.tmp 21), none⟩, []),
 (⟨some 23, .fieldAddr 6 (.tmp 22), none⟩, []),
 (⟨some 24, .move (.tmp 0), none⟩, []),
 (⟨some 25, .nilCheck (.tmp 24), none⟩, []),
 (⟨some 26, .fieldAddr 7 (.tmp 25), none⟩, []),
 (⟨some 27, .buildSlice 8 [.pointer none, .pointer none, .pointer none, .pointer none, .pointer none, .pointer none, .pointer none, .pointer none] [((0, 1), .tmp 5), ((1, 1), .tmp 8), ((2, 1), .tmp 11), ((3, 1), .tmp 14), ((4, 1), .tmp 17), ((5, 1), .tmp 20), ((6, 1), .tmp 23), ((7, 1), .tmp 26)], none⟩, []),
 (⟨some 2, .move (.tmp 27), none⟩, [])])
 (.ret))⟩
/-- hurdle/manager.Encode -/
def c_manager_Encode (F : Nat → FuncId) (Ty : Nat → TypeId) : IFunc := ⟨52, [.tmp 2, .tmp 3],
 .seq (.ops [⟨some 1, .box (.tmp 0), none⟩,
 ⟨some 2, .move (.const (.string ⟨#[]⟩)), none⟩,
 ⟨some 3, .move (.const (.int .i64 0)), none⟩])
 (.seq (.seq (.ops [⟨some 7, .fieldAddr 0 (.tmp 1), none⟩,
 ⟨some 8, .load1 (.tmp 7), none⟩,
 ⟨some 9, .bin .lss (.tmp 8) (.const (.int .i64 0)), none⟩,
 ⟨some 10, .move (.tmp 9), none⟩,
 ⟨some 11, .fieldAddr 0 (.tmp 1), some (10, false)⟩,
 ⟨some 12, .load1 (.tmp 11), some (10, false)⟩,
 ⟨some 13, .bin .geq (.tmp 12) (.const (.int .i64 16)), some (10, false)⟩,
 ⟨some 14, .pick (.tmp 10) (.const (.bool true)) (.tmp 13), none⟩,
 ⟨some 15, .move (.tmp 14), none⟩,
 ⟨some 16, .fieldAddr 1 (.tmp 1), some (15, false)⟩,
 ⟨some 17, .load1 (.tmp 16), some (15, false)⟩,
 ⟨some 18, .bin .lss (.tmp 17) (.const (.int .i64 0)), some (15, false)⟩,
 ⟨some 19, .pick (.tmp 15) (.const (.bool true)) (.tmp 18), none⟩,
 ⟨some 20, .move (.tmp 19), none⟩,
 ⟨some 21, .fieldAddr 1 (.tmp 1), some (20, false)⟩,
 ⟨some 22, .load1 (.tmp 21), some (20, false)⟩,
 ⟨some 23, .bin .geq (.tmp 22) (.const (.int .i64 2147483648)), some (20, false)⟩,
 ⟨some 24, .pick (.tmp 20) (.const (.bool true)) (.tmp 23), none⟩,
 ⟨some 25, .move (.tmp 24), none⟩,
 ⟨some 26, .fieldAddr 2 (.tmp 1), some (25, false)⟩,
 ⟨some 27, .load1 (.tmp 26), some (25, false)⟩,
 ⟨some 28, .bin .lss (.tmp 27) (.const (.int .i64 1)), some (25, false)⟩,
 ⟨some 29, .pick (.tmp 25) (.const (.bool true)) (.tmp 28), none⟩,
 ⟨some 30, .move (.tmp 29), none⟩,
 ⟨some 31, .fieldAddr 2 (.tmp 1), some (30, false)⟩,
 ⟨some 32, .load1 (.tmp 31), some (30, false)⟩,
 ⟨some 33, .bin .gtr (.tmp 32) (.const (.int .i64 9)), some (30, false)⟩,
 ⟨some 34, .pick (.tmp 30) (.const (.bool true)) (.tmp 33), none⟩])
 (.cond (.tmp 34)
 (.seq (.ops [⟨some 2, .move (.const (.string ⟨#[]⟩)), none⟩,
 ⟨some 3, .move (.const (.int .i64 1)), none⟩])
 (.ret))
 (.skip)))
 (.seq (.ops [⟨some 35, .call (F 31) [.const (.int .i64 65536)], none⟩,
 ⟨some 4, .move (.tmp 35), none⟩])
 (.seq (.seq (.ops [⟨some 36, .call (F 394) [.tmp 1], none⟩,
 ⟨some 37, .lenSl (.tmp 36), none⟩,
 ⟨some 38, .move (.const (.int .i64 0)), none⟩])
 (.block 0 (.loop (.seq (.ops [⟨some 39, .bin .lss (.tmp 38) (.tmp 37), none⟩])
 (.seq (.cond (.tmp 39)
 (.skip)
 (.exit 0))
 (.seq (.block 1 (.seq (.ops [⟨some 40, .idxSl 1 (.tmp 36) (.tmp 38), none⟩,
 ⟨some 41, .load1 (.tmp 40), none⟩,
 ⟨some 6, .move (.tmp 41), none⟩])
 (.ops [⟨some 42, .move (.tmp 4), none⟩,
 ⟨some 43, .move (.tmp 6), none⟩,
 ⟨some 44, .nilCheck (.tmp 43), none⟩,
 ⟨some 45, .load1 (.tmp 44), none⟩,
 ⟨some 46, .call (F 34) [.tmp 42, .tmp 45], none⟩])))
 (.ops [⟨some 47, .bin .add (.tmp 38) (.const (.int .i64 1)), none⟩,
 ⟨some 38, .move (.tmp 47), none⟩])))))))
 (.seq (.ops [⟨some 48, .move (.tmp 4), none⟩,
 ⟨some 49, .call (F 35) [.tmp 48], none⟩,
 ⟨some 50, .extract (.tmp 49) 0, none⟩,
 ⟨some 51, .extract (.tmp 49) 1, none⟩,
 ⟨some 2, .move (.tmp 50), none⟩,
 ⟨some 3, .move (.tmp 51), none⟩])
 (.ret)))))⟩
/-- hurdle/manager.Decode -/
def c_manager_Decode (F : Nat → FuncId) (Ty : Nat → TypeId) : IFunc := ⟨38, [.cellN 2 8, .tmp 3],
 .seq (.ops [⟨some 2, .alloc [.int .i64 0, .int .i64 0, .int .i64 0, .int .i64 0, .int .i64 0, .int .i64 0, .int .i64 0, .int .i64 0], none⟩,
 ⟨some 3, .move (.const (.int .i64 0)), none⟩])
 (.seq (.ops [⟨some 10, .move (.tmp 0), none⟩,
 ⟨some 11, .call (F 26) [.tmp 10], none⟩,
 ⟨some 12, .build [.int .i64 0, .int .i64 0, .int .i64 0, .int .i64 0, .int .i64 0, .int .i64 0, .int .i64 0, .int .i64 0] [], none⟩,
 ⟨some 5, .alloc [.int .i64 0, .int .i64 0, .int .i64 0, .int .i64 0, .int .i64 0, .int .i64 0, .int .i64 0, .int .i64 0], none⟩,
 ⟨some 4, .move (.tmp 11), none⟩,
 ⟨none, .store 8 (.tmp 5) (.tmp 12), none⟩])
 (.seq (.seq (.ops [⟨some 13, .call (F 394) [.tmp 5], none⟩,
 ⟨some 14, .lenSl (.tmp 13), none⟩,
 ⟨some 15, .move (.const (.int .i64 0)), none⟩])
 (.block 0 (.loop (.seq (.ops [⟨some 16, .bin .lss (.tmp 15) (.tmp 14), none⟩])
 (.seq (.cond (.tmp 16)
 (.skip)
 (.exit 0))
 (.seq (.block 1 (.seq (.ops [⟨some 17, .idxSl 1 (.tmp 13) (.tmp 15), none⟩,
 ⟨some 18, .load1 (.tmp 17), none⟩,
 ⟨some 7, .move (.tmp 18), none⟩])
 (.ops [⟨some 19, .move (.tmp 7), none⟩,
 ⟨some 20, .move (.tmp 4), none⟩,
 ⟨some 21, .call (F 29) [.tmp 20], none⟩,
 ⟨some 22, .nilCheck (.tmp 19), none⟩,
 ⟨none, .store 1 (.tmp 22) (.tmp 21), none⟩])))
 (.ops [⟨some 23, .bin .add (.tmp 15) (.const (.int .i64 1)), none⟩,
 ⟨some 15, .move (.tmp 23), none⟩])))))))
 (.seq (.seq (.ops [⟨some 25, .loadN 8 (.tmp 5), none⟩,
 ⟨some 26, .call (F 395) [.tmp 25], none⟩,
 ⟨some 24, .move (.tmp 26), none⟩,
 ⟨some 27, .extract (.tmp 24) 0, none⟩,
 ⟨some 28, .extract (.tmp 24) 1, none⟩,
 ⟨some 8, .move (.tmp 27), none⟩,
 ⟨some 9, .move (.tmp 28), none⟩])
 (.seq (.ops [⟨some 29, .move (.tmp 9), none⟩,
 ⟨some 30, .bin .neq (.tmp 29) (.const (.int .i64 0)), none⟩,
 ⟨some 31, .move (.tmp 30), none⟩,
 ⟨some 32, .move (.tmp 4), some (31, false)⟩,
 ⟨some 33, .call (F 30) [.tmp 32], some (31, false)⟩,
 ⟨some 34, .bin .neq (.tmp 33) (.const (.int .i64 0)), some (31, false)⟩,
 ⟨some 35, .pick (.tmp 31) (.const (.bool true)) (.tmp 34), none⟩])
 (.cond (.tmp 35)
 (.seq (.ops [⟨some 36, .build [.int .i64 0, .int .i64 0, .int .i64 0, .int .i64 0, .int .i64 0, .int .i64 0, .int .i64 0, .int .i64 0] [], none⟩,
 ⟨none, .store 8 (.tmp 2) (.tmp 36), none⟩,
 ⟨some 3, .move (.const (.int .i64 3)), none⟩])
 (.ret))
 (.skip))))
 (.seq (.ops [⟨some 37, .loadN 8 (.tmp 5), none⟩,
 ⟨none, .store 8 (.tmp 2) (.tmp 37), none⟩,
 ⟨some 3, .move (.const (.int .i64 0)), none⟩])
 (.ret)))))⟩
/-- hurdle/manager.answer -/
def c_manager_answer (F : Nat → FuncId) (Ty : Nat → TypeId) : IFunc := ⟨23, [.tmp 4],
 .seq (.ops [⟨some 4, .move (.const (.string ⟨#[]⟩)), none⟩])
 (.seq (.seq (.ops [⟨some 8, .move (.tmp 1), none⟩,
 ⟨some 9, .bin .neq (.tmp 8) (.const (.int .i64 0)), none⟩])
 (.cond (.tmp 9)
 (.ops [⟨some 0, .move (.const (.slice none 0 0)), none⟩])
 (.skip)))
 (.seq (.ops [⟨some 10, .call (F 31) [.const (.int .i64 65536)], none⟩,
 ⟨some 5, .move (.tmp 10), none⟩])
 (.seq (.ops [⟨some 11, .move (.tmp 5), none⟩,
 ⟨some 12, .move (.tmp 1), none⟩,
 ⟨some 13, .call (F 49) [.tmp 11, .tmp 12], none⟩])
 (.seq (.ops [⟨some 14, .move (.tmp 5), none⟩,
 ⟨some 15, .move (.tmp 0), none⟩,
 ⟨some 16, .call (F 32) [.tmp 14, .tmp 15], none⟩])
 (.seq (.ops [⟨some 18, .move (.tmp 5), none⟩,
 ⟨some 19, .call (F 35) [.tmp 18], none⟩,
 ⟨some 17, .move (.tmp 19), none⟩,
 ⟨some 20, .extract (.tmp 17) 0, none⟩,
 ⟨some 21, .extract (.tmp 17) 1, none⟩,
 ⟨some 6, .move (.tmp 20), none⟩,
 ⟨some 7, .move (.tmp 21), none⟩])
 (.seq (.ops [⟨some 22, .move (.tmp 6), none⟩,
 ⟨some 4, .move (.tmp 22), none⟩])
 (.ret)))))))⟩
/-- hurdle/manager.Answer -/
def c_manager_Answer (F : Nat → FuncId) (Ty : Nat → TypeId) : IFunc := ⟨19, [.tmp 2, .tmp 3, .tmp 4],
 .seq (.ops [⟨some 2, .move (.const (.int .i64 0)), none⟩,
 ⟨some 3, .move (.const (.slice none 0 0)), none⟩,
 ⟨some 4, .move (.const (.int .i64 0)), none⟩])
 (.seq (.ops [⟨some 8, .move (.tmp 0), none⟩,
 ⟨some 9, .call (F 26) [.tmp 8], none⟩,
 ⟨some 5, .move (.tmp 9), none⟩])
 (.seq (.ops [⟨some 10, .move (.tmp 5), none⟩,
 ⟨some 11, .call (F 37) [.tmp 10], none⟩,
 ⟨some 12, .move (.tmp 5), none⟩,
 ⟨some 13, .call (F 27) [.tmp 12], none⟩,
 ⟨some 6, .move (.tmp 11), none⟩,
 ⟨some 7, .move (.tmp 13), none⟩])
 (.seq (.seq (.ops [⟨some 14, .move (.tmp 5), none⟩,
 ⟨some 15, .call (F 30) [.tmp 14], none⟩,
 ⟨some 16, .bin .neq (.tmp 15) (.const (.int .i64 0)), none⟩])
 (.cond (.tmp 16)
 (.seq (.ops [⟨some 2, .move (.const (.int .i64 0)), none⟩,
 ⟨some 3, .move (.const (.slice none 0 0)), none⟩,
 ⟨some 4, .move (.const (.int .i64 3)), none⟩])
 (.ret))
 (.skip)))
 (.seq (.ops [⟨some 17, .move (.tmp 6), none⟩,
 ⟨some 18, .move (.tmp 7), none⟩,
 ⟨some 2, .move (.tmp 17), none⟩,
 ⟨some 3, .move (.tmp 18), none⟩,
 ⟨some 4, .move (.const (.int .i64 0)), none⟩])
 (.ret)))))⟩
/-- hurdle/manager.does -/
def c_manager_does (F : Nat → FuncId) (Ty : Nat → TypeId) : IFunc := ⟨20, [.tmp 2],
 .seq (.ops [⟨some 2, .move (.const (.nilFunc)), none⟩])
 (.seq (.seq (.ops [⟨some 3, .move (.tmp 0), none⟩])
 (.block 0 (.seq (.ops [⟨some 5, .bin .eql (.tmp 3) (.const (.int .i64 1)), none⟩,
 ⟨some 4, .move (.tmp 5), none⟩])
 (.cond (.tmp 4)
 (.seq (.ops [⟨some 2, .move (.func (F 406)), none⟩])
 (.ret))
 (.seq (.ops [⟨some 7, .bin .eql (.tmp 3) (.const (.int .i64 2)), none⟩,
 ⟨some 6, .move (.tmp 7), none⟩])
 (.cond (.tmp 6)
 (.seq (.ops [⟨some 2, .move (.func (F 407)), none⟩])
 (.ret))
 (.seq (.ops [⟨some 9, .bin .eql (.tmp 3) (.const (.int .i64 3)), none⟩,
 ⟨some 8, .move (.tmp 9), none⟩])
 (.cond (.tmp 8)
 (.seq (.ops [⟨some 2, .move (.func (F 408)), none⟩])
 (.ret))
 (.seq (.ops [⟨some 11, .bin .eql (.tmp 3) (.const (.int .i64 4)), none⟩,
 ⟨some 10, .move (.tmp 11), none⟩])
 (.cond (.tmp 10)
 (.seq (.ops [⟨some 2, .move (.func (F 409)), none⟩])
 (.ret))
 (.seq (.ops [⟨some 13, .bin .eql (.tmp 3) (.const (.int .i64 5)), none⟩,
 ⟨some 12, .move (.tmp 13), none⟩])
 (.cond (.tmp 12)
 (.seq (.ops [⟨some 2, .move (.func (F 410)), none⟩])
 (.ret))
 (.seq (.ops [⟨some 15, .bin .eql (.tmp 3) (.const (.int .i64 6)), none⟩,
 ⟨some 14, .move (.tmp 15), none⟩])
 (.cond (.tmp 14)
 (.seq (.ops [⟨some 2, .move (.func (F 411)), none⟩])
 (.ret))
 (.seq (.ops [⟨some 17, .bin .eql (.tmp 3) (.const (.int .i64 7)), none⟩,
 ⟨some 16, .move (.tmp 17), none⟩])
 (.cond (.tmp 16)
 (.seq (.ops [⟨some 2, .move (.func (F 412)), none⟩])
 (.ret))
 (.seq (.ops [⟨some 19, .bin .eql (.tmp 3) (.const (.int .i64 8)), none⟩,
 ⟨some 18, .move (.tmp 19), none⟩])
 (.cond (.tmp 18)
 (.seq (.ops [⟨some 2, .move (.func (F 413)), none⟩])
 (.ret))
 (.skip)))))))))))))))))))
 (.seq (.ops [⟨some 2, .move (.func (F 414)), none⟩])
 (.ret)))⟩
/-- (*hurdle/manager.Manager).Do -/
def c_manager_Manager_Do (F : Nat → FuncId) (Ty : Nat → TypeId) : IFunc := ⟨61, [.tmp 4],
 .seq (.ops [⟨some 4, .move (.const (.string ⟨#[]⟩)), none⟩])
 (.seq (.seq (.ops [⟨some 10, .move (.tmp 0), none⟩,
 ⟨some 11, .eqNil 0 false (.tmp 10), none⟩])
 (.cond (.tmp 11)
 (.seq (.ops [⟨some 12, .call (F 397) [.const (.slice none 0 0), .const (.int .i64 1)], none⟩,
 ⟨some 4, .move (.tmp 12), none⟩])
 (.ret))
 (.skip)))
 (.seq (.ops [⟨some 14, .move (.tmp 1), none⟩,
 ⟨some 15, .call (F 396) [.tmp 14], none⟩,
 ⟨some 13, .move (.tmp 15), none⟩,
 ⟨some 16, .extract (.tmp 13) 0, none⟩,
 ⟨some 17, .extract (.tmp 13) 1, none⟩,
 ⟨some 5, .alloc [.int .i64 0, .int .i64 0, .int .i64 0, .int .i64 0, .int .i64 0, .int .i64 0, .int .i64 0, .int .i64 0], none⟩,
 ⟨none, .store 8 (.tmp 5) (.tmp 16), none⟩,
 ⟨some 6, .move (.tmp 17), none⟩])
 (.seq (.seq (.ops [⟨some 18, .move (.tmp 6), none⟩,
 ⟨some 19, .bin .neq (.tmp 18) (.const (.int .i64 0)), none⟩])
 (.cond (.tmp 19)
 (.seq (.ops [⟨some 20, .move (.tmp 6), none⟩,
 ⟨some 21, .call (F 397) [.const (.slice none 0 0), .tmp 20], none⟩,
 ⟨some 4, .move (.tmp 21), none⟩])
 (.ret))
 (.skip)))
 (.seq (.seq (.draw [(⟨some 23, .move (.tmp 0), none⟩, []),
 (⟨some 24, .nilCheck (.tmp 23), none⟩, []),
 (⟨some 25, .fieldAddr 5 (.tmp 24), none⟩, []),
 (⟨some 26, .load1 (.tmp 25), none⟩, []),
 (⟨some 27, .fieldAddr 0 (.tmp 5), none⟩, []),
 (⟨some 28, .load1 (.tmp 27), none⟩, []),
 (⟨some 29, .fieldAddr 1 (.tmp 5), none⟩, []),
 (⟨some 30, .load1 (.tmp 29), none⟩, []),
 (⟨some 31, .call (F 379) [.tmp 26, .tmp 28, .tmp 30], none⟩, []),
 (⟨some 22, .move (.tmp 31), none⟩, []),
 (⟨some 32, .extract (.tmp 22) 0, none⟩, []),
 (⟨some 33, .extract (.tmp 22) 1, none⟩, []),
 (⟨some 7, .move (.tmp 32), none⟩, []),
 (⟨some 8, .move (.tmp 33), none⟩, [])])
 (.seq (.ops [⟨some 34, .move (.tmp 7), none⟩])
 (.block 0 (.seq (.ops [⟨some 37, .bin .eql (.tmp 34) (.const (.int .i64 2)), none⟩,
 ⟨some 36, .move (.tmp 37), none⟩])
 (.cond (.tmp 36)
 (.seq (.ops [⟨some 38, .move (.tmp 8), none⟩,
 ⟨some 4, .move (.tmp 38), none⟩])
 (.ret))
 (.seq (.ops [⟨some 40, .bin .eql (.tmp 34) (.const (.int .i64 1)), none⟩,
 ⟨some 39, .move (.tmp 40), none⟩])
 (.cond (.tmp 39)
 (.skip)
 (.seq (.ops [⟨some 35, .call (F 397) [.const (.slice none 0 0), .const (.int .i64 16)], none⟩,
 ⟨some 4, .move (.tmp 35), none⟩])
 (.ret)))))))))
 (.seq (.draw [(⟨some 41, .fieldAddr 2 (.tmp 5), none⟩, []),
 (⟨some 42, .load1 (.tmp 41), none⟩, []),
 (⟨some 44, .move (.tmp 0), none⟩, []),
 (⟨some 45, .loadN 8 (.tmp 5), none⟩, []),
 (⟨some 43, .call (F 399) [.tmp 42], none⟩, [⟨some 45, .loadN 8 (.tmp 5), none⟩]),
 (⟨some 46, .callDyn (.tmp 43) [.tmp 44, .tmp 45], none⟩, []),
 (⟨some 47, .extract (.tmp 46) 0, none⟩, []),
 (⟨some 48, .extract (.tmp 46) 1, none⟩, []),
 (⟨some 49, .call (F 397) [.tmp 47, .tmp 48], none⟩, []),
 (⟨some 9, .move (.tmp 49), none⟩, [])])
 (.seq (.draw [(⟨some 50, .move (.tmp 0), none⟩, []),
 (⟨some 51, .nilCheck (.tmp 50), none⟩, []),
 (⟨some 52, .fieldAddr 5 (.tmp 51), none⟩, []),
 (⟨some 53, .load1 (.tmp 52), none⟩, []),
 (⟨some 54, .fieldAddr 0 (.tmp 5), none⟩, []),
 (⟨some 55, .load1 (.tmp 54), none⟩, []),
 (⟨some 56, .fieldAddr 1 (.tmp 5), none⟩, []),
 (⟨some 57, .load1 (.tmp 56), none⟩, []),
 (⟨some 58, .move (.tmp 9), none⟩, []),
 (⟨some 59, .call (F 380) [.tmp 53, .tmp 55, .tmp 57, .tmp 58], none⟩, [])])
 (.seq (.ops [⟨some 60, .move (.tmp 9), none⟩,
 ⟨some 4, .move (.tmp 60), none⟩])
 (.ret))))))))⟩
/-- (*hurdle/manager.Manager).Stripe -/
def c_manager_Manager_Stripe (F : Nat → FuncId) (Ty : Nat → TypeId) : IFunc := ⟨17, [.cellN 4 6, .tmp 5],
 .seq (.ops [⟨some 4, .alloc [.int .i64 0, .int .i64 0, .int .i64 0, .int .i64 0, .int .i64 0, .slice none 0 0], none⟩,
 ⟨some 5, .move (.const (.bool false)), none⟩])
 (.seq (.seq (.ops [⟨some 6, .move (.tmp 0), none⟩,
 ⟨some 7, .eqNil 0 false (.tmp 6), none⟩])
 (.cond (.tmp 7)
 (.seq (.ops [⟨some 8, .build [.int .i64 0, .int .i64 0, .int .i64 0, .int .i64 0, .int .i64 0, .slice none 0 0] [], none⟩,
 ⟨none, .store 6 (.tmp 4) (.tmp 8), none⟩,
 ⟨some 5, .move (.const (.bool false)), none⟩])
 (.ret))
 (.skip)))
 (.seq (.ops [⟨some 9, .move (.tmp 0), none⟩,
 ⟨some 10, .nilCheck (.tmp 9), none⟩,
 ⟨some 11, .fieldAddr 1 (.tmp 10), none⟩,
 ⟨some 12, .load1 (.tmp 11), none⟩,
 ⟨some 13, .move (.tmp 1), none⟩,
 ⟨some 14, .call (F 143) [.tmp 12, .tmp 13], none⟩,
 ⟨some 15, .extract (.tmp 14) 0, none⟩,
 ⟨some 16, .extract (.tmp 14) 1, none⟩,
 ⟨none, .store 6 (.tmp 4) (.tmp 15), none⟩,
 ⟨some 5, .move (.tmp 16), none⟩])
 (.ret)))⟩
/-- (*hurdle/manager.Manager).Spot -/
def c_manager_Manager_Spot (F : Nat → FuncId) (Ty : Nat → TypeId) : IFunc := ⟨17, [.cellN 4 4, .tmp 5],
 .seq (.ops [⟨some 4, .alloc [.int .i64 0, .int .i64 0, .int .i64 0, .int .i64 0], none⟩,
 ⟨some 5, .move (.const (.bool false)), none⟩])
 (.seq (.seq (.ops [⟨some 6, .move (.tmp 0), none⟩,
 ⟨some 7, .eqNil 0 false (.tmp 6), none⟩])
 (.cond (.tmp 7)
 (.seq (.ops [⟨some 8, .build [.int .i64 0, .int .i64 0, .int .i64 0, .int .i64 0] [], none⟩,
 ⟨none, .store 4 (.tmp 4) (.tmp 8), none⟩,
 ⟨some 5, .move (.const (.bool false)), none⟩])
 (.ret))
 (.skip)))
 (.seq (.ops [⟨some 9, .move (.tmp 0), none⟩,
 ⟨some 10, .nilCheck (.tmp 9), none⟩,
 ⟨some 11, .fieldAddr 2 (.tmp 10), none⟩,
 ⟨some 12, .load1 (.tmp 11), none⟩,
 ⟨some 13, .move (.tmp 1), none⟩,
 ⟨some 14, .call (F 388) [.tmp 12, .tmp 13], none⟩,
 ⟨some 15, .extract (.tmp 14) 0, none⟩,
 ⟨some 16, .extract (.tmp 14) 1, none⟩,
 ⟨none, .store 4 (.tmp 4) (.tmp 15), none⟩,
 ⟨some 5, .move (.tmp 16), none⟩])
 (.ret)))⟩
/-- (*hurdle/manager.Manager).Servers -/
def c_manager_Manager_Servers (F : Nat → FuncId) (Ty : Nat → TypeId) : IFunc := ⟨10, [.tmp 2],
 .seq (.ops [⟨some 2, .move (.const (.slice none 0 0)), none⟩])
 (.seq (.seq (.ops [⟨some 3, .move (.tmp 0), none⟩,
 ⟨some 4, .eqNil 0 false (.tmp 3), none⟩])
 (.cond (.tmp 4)
 (.seq (.ops [⟨some 2, .move (.const (.slice none 0 0)), none⟩])
 (.ret))
 (.skip)))
 (.seq (.ops [⟨some 5, .move (.tmp 0), none⟩,
 ⟨some 6, .nilCheck (.tmp 5), none⟩,
 ⟨some 7, .fieldAddr 0 (.tmp 6), none⟩,
 ⟨some 8, .load1 (.tmp 7), none⟩,
 ⟨some 9, .call (F 100) [.tmp 8], none⟩,
 ⟨some 2, .move (.tmp 9), none⟩])
 (.ret)))⟩
/-- (*hurdle/manager.Manager).Epoch -/
def c_manager_Manager_Epoch (F : Nat → FuncId) (Ty : Nat → TypeId) : IFunc := ⟨10, [.tmp 2],
 .seq (.ops [⟨some 2, .move (.const (.int .i64 0)), none⟩])
 (.seq (.seq (.ops [⟨some 3, .move (.tmp 0), none⟩,
 ⟨some 4, .eqNil 0 false (.tmp 3), none⟩])
 (.cond (.tmp 4)
 (.seq (.ops [⟨some 2, .move (.const (.int .i64 0)), none⟩])
 (.ret))
 (.skip)))
 (.seq (.ops [⟨some 5, .move (.tmp 0), none⟩,
 ⟨some 6, .nilCheck (.tmp 5), none⟩,
 ⟨some 7, .fieldAddr 0 (.tmp 6), none⟩,
 ⟨some 8, .load1 (.tmp 7), none⟩,
 ⟨some 9, .call (F 98) [.tmp 8], none⟩,
 ⟨some 2, .move (.tmp 9), none⟩])
 (.ret)))⟩
/-- (*hurdle/manager.Manager).Stripes -/
def c_manager_Manager_Stripes (F : Nat → FuncId) (Ty : Nat → TypeId) : IFunc := ⟨13, [.tmp 4],
 .seq (.ops [⟨some 4, .move (.const (.slice none 0 0)), none⟩])
 (.seq (.seq (.ops [⟨some 5, .move (.tmp 0), none⟩,
 ⟨some 6, .eqNil 0 false (.tmp 5), none⟩])
 (.cond (.tmp 6)
 (.seq (.ops [⟨some 4, .move (.const (.slice none 0 0)), none⟩])
 (.ret))
 (.skip)))
 (.seq (.ops [⟨some 7, .move (.tmp 0), none⟩,
 ⟨some 8, .nilCheck (.tmp 7), none⟩,
 ⟨some 9, .fieldAddr 1 (.tmp 8), none⟩,
 ⟨some 10, .load1 (.tmp 9), none⟩,
 ⟨some 11, .move (.tmp 1), none⟩,
 ⟨some 12, .call (F 144) [.tmp 10, .tmp 11], none⟩,
 ⟨some 4, .move (.tmp 12), none⟩])
 (.ret)))⟩
/-- (*hurdle/manager.Manager).begin -/
def c_manager_Manager_begin (F : Nat → FuncId) (Ty : Nat → TypeId) : IFunc := ⟨38, [.tmp 4, .tmp 5],
 .seq (.ops [⟨some 3, .box (.tmp 1), none⟩,
 ⟨some 4, .move (.const (.slice none 0 0)), none⟩,
 ⟨some 5, .move (.const (.int .i64 0)), none⟩])
 (.seq (.draw [(⟨some 9, .move (.tmp 0), none⟩, []),
 (⟨some 10, .nilCheck (.tmp 9), none⟩, []),
 (⟨some 11, .fieldAddr 1 (.tmp 10), none⟩, []),
 (⟨some 12, .load1 (.tmp 11), none⟩, []),
 (⟨some 13, .fieldAddr 0 (.tmp 3), none⟩, []),
 (⟨some 14, .load1 (.tmp 13), none⟩, []),
 (⟨some 15, .move (.tmp 0), none⟩, []),
 (⟨some 16, .nilCheck (.tmp 15), none⟩, []),
 (⟨some 17, .fieldAddr 0 (.tmp 16), none⟩, []),
 (⟨some 18, .load1 (.tmp 17), none⟩, []),
 (⟨some 20, .fieldAddr 3 (.tmp 3), none⟩, []),
 (⟨some 21, .load1 (.tmp 20), none⟩, []),
 (⟨some 22, .move (.tmp 0), none⟩, []),
 (⟨some 23, .nilCheck (.tmp 22), none⟩, []),
 (⟨some 24, .fieldAddr 0 (.tmp 23), none⟩, []),
 (⟨some 25, .load1 (.tmp 24), none⟩, []),
 (⟨some 19, .call (F 98) [.tmp 18], none⟩, [⟨some 12, .load1 (.tmp 11), none⟩, ⟨some 14, .load1 (.tmp 13), none⟩, ⟨some 21, .load1 (.tmp 20), none⟩, ⟨some 25, .load1 (.tmp 24), none⟩]),
 (⟨some 26, .call (F 100) [.tmp 25], none⟩, [⟨some 12, .load1 (.tmp 11), none⟩, ⟨some 14, .load1 (.tmp 13), none⟩, ⟨some 21, .load1 (.tmp 20), none⟩]),
 (⟨some 27, .call (F 135) [.tmp 12, .tmp 14, .tmp 19, .tmp 21, .tmp 26], none⟩, []),
 (⟨some 8, .move (.tmp 27), none⟩, []),
 (⟨some 28, .extract (.tmp 8) 0, none⟩, []),
 (⟨some 29, .extract (.tmp 8) 1, none⟩, []),
 (⟨some 6, .move (.tmp 28), none⟩, []),
 (⟨some 7, .move (.tmp 29), none⟩, [])])
 (.seq (.ops [⟨some 30, .move (.tmp 6), none⟩,
 ⟨some 31, .move (.tmp 0), none⟩,
 ⟨some 32, .nilCheck (.tmp 31), none⟩,
 ⟨some 33, .fieldAddr 0 (.tmp 32), none⟩,
 ⟨some 34, .load1 (.tmp 33), none⟩,
 ⟨some 35, .call (F 98) [.tmp 34], none⟩,
 ⟨some 36, .buildSlice 2 [.int .i64 0, .int .i64 0] [((0, 1), .tmp 30), ((1, 1), .tmp 35)], none⟩,
 ⟨some 37, .move (.tmp 7), none⟩,
 ⟨some 4, .move (.tmp 36), none⟩,
 ⟨some 5, .move (.tmp 37), none⟩])
 (.ret)))⟩
/-- (*hurdle/manager.Manager).commit -/
def c_manager_Manager_commit (F : Nat → FuncId) (Ty : Nat → TypeId) : IFunc := ⟨70, [.tmp 4, .tmp 5],
 .seq (.ops [⟨some 3, .box (.tmp 1), none⟩,
 ⟨some 4, .move (.const (.slice none 0 0)), none⟩,
 ⟨some 5, .move (.const (.int .i64 0)), none⟩])
 (.seq (.draw [(⟨some 10, .move (.tmp 0), none⟩, []),
 (⟨some 11, .nilCheck (.tmp 10), none⟩, []),
 (⟨some 12, .fieldAddr 1 (.tmp 11), none⟩, []),
 (⟨some 13, .load1 (.tmp 12), none⟩, []),
 (⟨some 14, .fieldAddr 3 (.tmp 3), none⟩, []),
 (⟨some 15, .load1 (.tmp 14), none⟩, []),
 (⟨some 6, .alloc [.int .i64 0, .int .i64 0, .int .i64 0, .int .i64 0, .int .i64 0, .slice none 0 0], none⟩, []),
 (⟨some 16, .call (F 143) [.tmp 13, .tmp 15], none⟩, []),
 (⟨some 9, .move (.tmp 16), none⟩, []),
 (⟨some 17, .extract (.tmp 9) 0, none⟩, []),
 (⟨some 18, .extract (.tmp 9) 1, none⟩, []),
 (⟨none, .store 6 (.tmp 6) (.tmp 17), none⟩, []),
 (⟨some 7, .move (.tmp 18), none⟩, [])])
 (.seq (.seq (.draw [(⟨some 19, .move (.tmp 7), none⟩, []),
 (⟨some 20, .move (.tmp 19), none⟩, []),
 (⟨some 21, .fieldAddr 1 (.tmp 6), some (20, true)⟩, []),
 (⟨some 22, .load1 (.tmp 21), some (20, true)⟩, []),
 (⟨some 23, .bin .eql (.tmp 22) (.const (.int .i64 1)), some (20, true)⟩, []),
 (⟨some 24, .pick (.tmp 20) (.tmp 23) (.const (.bool false)), none⟩, []),
 (⟨some 25, .move (.tmp 24), none⟩, []),
 (⟨some 26, .fieldAddr 2 (.tmp 6), some (25, true)⟩, []),
 (⟨some 27, .load1 (.tmp 26), some (25, true)⟩, []),
 (⟨some 28, .fieldAddr 0 (.tmp 3), some (25, true)⟩, []),
 (⟨some 29, .load1 (.tmp 28), some (25, true)⟩, []),
 (⟨some 30, .bin .eql (.tmp 27) (.tmp 29), some (25, true)⟩, []),
 (⟨some 31, .pick (.tmp 25) (.tmp 30) (.const (.bool false)), none⟩, []),
 (⟨some 32, .move (.tmp 31), none⟩, []),
 (⟨some 33, .fieldAddr 3 (.tmp 6), some (32, true)⟩, []),
 (⟨some 34, .load1 (.tmp 33), some (32, true)⟩, []),
 (⟨some 35, .move (.tmp 0), some (32, true)⟩, []),
 (⟨some 36, .nilCheck (.tmp 35), some (32, true)⟩, []),
 (⟨some 37, .fieldAddr 0 (.tmp 36), some (32, true)⟩, []),
 (⟨some 38, .load1 (.tmp 37), some (32, true)⟩, []),
 (⟨some 39, .call (F 98) [.tmp 38], some (32, true)⟩, [⟨some 34, .load1 (.tmp 33), some (32, true)⟩]),
 (⟨some 40, .bin .neq (.tmp 34) (.tmp 39), some (32, true)⟩, []),
 (⟨some 41, .pick (.tmp 32) (.tmp 40) (.const (.bool false)), none⟩, [])])
 (.cond (.tmp 41)
 (.seq (.ops [⟨some 4, .move (.const (.slice none 0 0)), none⟩,
 ⟨some 5, .move (.const (.int .i64 10)), none⟩])
 (.ret))
 (.skip)))
 (.seq (.draw [(⟨some 42, .move (.tmp 0), none⟩, []),
 (⟨some 43, .nilCheck (.tmp 42), none⟩, []),
 (⟨some 44, .fieldAddr 1 (.tmp 43), none⟩, []),
 (⟨some 45, .load1 (.tmp 44), none⟩, []),
 (⟨some 46, .fieldAddr 3 (.tmp 3), none⟩, []),
 (⟨some 47, .load1 (.tmp 46), none⟩, []),
 (⟨some 48, .fieldAddr 0 (.tmp 3), none⟩, []),
 (⟨some 49, .load1 (.tmp 48), none⟩, []),
 (⟨some 50, .call (F 137) [.tmp 45, .tmp 47, .tmp 49], none⟩, []),
 (⟨some 8, .move (.tmp 50), none⟩, [])])
 (.seq (.seq (.ops [⟨some 51, .move (.tmp 8), none⟩,
 ⟨some 52, .bin .eql (.tmp 51) (.const (.int .i64 0)), none⟩,
 ⟨some 53, .move (.tmp 52), none⟩,
 ⟨some 54, .fieldAddr 4 (.tmp 6), some (53, true)⟩,
 ⟨some 55, .load1 (.tmp 54), some (53, true)⟩,
 ⟨some 56, .bin .gtr (.tmp 55) (.const (.int .i64 0)), some (53, true)⟩,
 ⟨some 57, .pick (.tmp 53) (.tmp 56) (.const (.bool false)), none⟩])
 (.cond (.tmp 57)
 (.draw [(⟨some 58, .move (.tmp 0), none⟩, []),
 (⟨some 59, .nilCheck (.tmp 58), none⟩, []),
 (⟨some 60, .fieldAddr 3 (.tmp 59), none⟩, []),
 (⟨some 61, .load1 (.tmp 60), none⟩, []),
 (⟨some 62, .fieldAddr 3 (.tmp 3), none⟩, []),
 (⟨some 63, .load1 (.tmp 62), none⟩, []),
 (⟨some 64, .fieldAddr 4 (.tmp 6), none⟩, []),
 (⟨some 65, .load1 (.tmp 64), none⟩, []),
 (⟨some 66, .fieldAddr 4 (.tmp 6), none⟩, []),
 (⟨some 67, .load1 (.tmp 66), none⟩, []),
 (⟨some 68, .call (F 243) [.tmp 61, .tmp 63, .tmp 65, .tmp 67, .const (.int .i64 0)], none⟩, [])])
 (.skip)))
 (.seq (.ops [⟨some 69, .move (.tmp 8), none⟩,
 ⟨some 4, .move (.const (.slice none 0 0)), none⟩,
 ⟨some 5, .move (.tmp 69), none⟩])
 (.ret))))))⟩
/-- (*hurdle/manager.Manager).free -/
def c_manager_Manager_free (F : Nat → FuncId) (Ty : Nat → TypeId) : IFunc := ⟨24, [.tmp 4, .tmp 5],
 .seq (.ops [⟨some 3, .box (.tmp 1), none⟩,
 ⟨some 4, .move (.const (.slice none 0 0)), none⟩,
 ⟨some 5, .move (.const (.int .i64 0)), none⟩])
 (.seq (.draw [(⟨some 7, .move (.tmp 0), none⟩, []),
 (⟨some 8, .nilCheck (.tmp 7), none⟩, []),
 (⟨some 9, .fieldAddr 1 (.tmp 8), none⟩, []),
 (⟨some 10, .load1 (.tmp 9), none⟩, []),
 (⟨some 11, .fieldAddr 3 (.tmp 3), none⟩, []),
 (⟨some 12, .load1 (.tmp 11), none⟩, []),
 (⟨some 13, .call (F 138) [.tmp 10, .tmp 12], none⟩, []),
 (⟨some 6, .move (.tmp 13), none⟩, [])])
 (.seq (.seq (.ops [⟨some 14, .move (.tmp 6), none⟩,
 ⟨some 15, .bin .eql (.tmp 14) (.const (.int .i64 0)), none⟩])
 (.cond (.tmp 15)
 (.draw [(⟨some 16, .move (.tmp 0), none⟩, []),
 (⟨some 17, .nilCheck (.tmp 16), none⟩, []),
 (⟨some 18, .fieldAddr 3 (.tmp 17), none⟩, []),
 (⟨some 19, .load1 (.tmp 18), none⟩, []),
 (⟨some 20, .fieldAddr 3 (.tmp 3), none⟩, []),
 (⟨some 21, .load1 (.tmp 20), none⟩, []),
 (⟨some 22, .call (F 246) [.tmp 19, .tmp 21], none⟩, [])])
 (.skip)))
 (.seq (.ops [⟨some 23, .move (.tmp 6), none⟩,
 ⟨some 4, .move (.const (.slice none 0 0)), none⟩,
 ⟨some 5, .move (.tmp 23), none⟩])
 (.ret))))⟩
/-- (*hurdle/manager.Manager).move -/
def c_manager_Manager_move (F : Nat → FuncId) (Ty : Nat → TypeId) : IFunc := ⟨104, [.tmp 4, .tmp 5],
 .seq (.ops [⟨some 3, .box (.tmp 1), none⟩,
 ⟨some 4, .move (.const (.slice none 0 0)), none⟩,
 ⟨some 5, .move (.const (.int .i64 0)), none⟩])
 (.seq (.draw [(⟨some 14, .move (.tmp 0), none⟩, []),
 (⟨some 15, .nilCheck (.tmp 14), none⟩, []),
 (⟨some 16, .fieldAddr 1 (.tmp 15), none⟩, []),
 (⟨some 17, .load1 (.tmp 16), none⟩, []),
 (⟨some 18, .fieldAddr 5 (.tmp 3), none⟩, []),
 (⟨some 19, .load1 (.tmp 18), none⟩, []),
 (⟨some 6, .alloc [.int .i64 0, .int .i64 0, .int .i64 0, .int .i64 0, .int .i64 0, .slice none 0 0], none⟩, []),
 (⟨some 20, .call (F 143) [.tmp 17, .tmp 19], none⟩, []),
 (⟨some 13, .move (.tmp 20), none⟩, []),
 (⟨some 21, .extract (.tmp 13) 0, none⟩, []),
 (⟨some 22, .extract (.tmp 13) 1, none⟩, []),
 (⟨none, .store 6 (.tmp 6) (.tmp 21), none⟩, []),
 (⟨some 7, .move (.tmp 22), none⟩, [])])
 (.seq (.ops [⟨some 23, .fieldAddr 1 (.tmp 6), none⟩,
 ⟨some 24, .load1 (.tmp 23), none⟩,
 ⟨some 25, .bin .eql (.tmp 24) (.const (.int .i64 2)), none⟩,
 ⟨some 8, .move (.tmp 25), none⟩])
 (.seq (.block 0 (.seq (.ops [⟨some 27, .fieldAddr 6 (.tmp 3), none⟩,
 ⟨some 28, .load1 (.tmp 27), none⟩,
 ⟨some 29, .bin .lss (.tmp 28) (.const (.int .i64 0)), none⟩,
 ⟨some 30, .move (.tmp 29), none⟩,
 ⟨some 31, .fieldAddr 7 (.tmp 3), some (30, false)⟩,
 ⟨some 32, .load1 (.tmp 31), some (30, false)⟩,
 ⟨some 33, .bin .lss (.tmp 32) (.const (.int .i64 0)), some (30, false)⟩,
 ⟨some 34, .pick (.tmp 30) (.const (.bool true)) (.tmp 33), none⟩,
 ⟨some 35, .move (.tmp 34), none⟩,
 ⟨some 36, .move (.tmp 8), some (35, false)⟩,
 ⟨some 37, .move (.tmp 36), some (35, false)⟩,
 ⟨some 38, .fieldAddr 6 (.tmp 3), some (37, true)⟩,
 ⟨some 39, .load1 (.tmp 38), some (37, true)⟩,
 ⟨some 40, .fieldAddr 4 (.tmp 6), some (37, true)⟩,
 ⟨some 41, .load1 (.tmp 40), some (37, true)⟩,
 ⟨some 42, .bin .gtr (.tmp 39) (.tmp 41), some (37, true)⟩,
 ⟨some 43, .move (.tmp 42), some (37, true)⟩,
 ⟨some 44, .fieldAddr 7 (.tmp 3), some (43, false)⟩,
 ⟨some 45, .load1 (.tmp 44), some (43, false)⟩,
 ⟨some 46, .fieldAddr 4 (.tmp 6), some (43, false)⟩,
 ⟨some 47, .load1 (.tmp 46), some (43, false)⟩,
 ⟨some 48, .fieldAddr 6 (.tmp 3), some (43, false)⟩,
 ⟨some 49, .load1 (.tmp 48), some (43, false)⟩,
 ⟨some 50, .bin .sub (.tmp 47) (.tmp 49), some (43, false)⟩,
 ⟨some 51, .bin .gtr (.tmp 45) (.tmp 50), some (43, false)⟩,
 ⟨some 52, .pick (.tmp 43) (.const (.bool true)) (.tmp 51), some (37, true)⟩,
 ⟨some 53, .pick (.tmp 37) (.tmp 52) (.const (.bool false)), some (35, false)⟩,
 ⟨some 54, .pick (.tmp 35) (.const (.bool true)) (.tmp 53), none⟩,
 ⟨some 26, .move (.tmp 54), none⟩])
 (.cond (.tmp 26)
 (.seq (.ops [⟨some 4, .move (.const (.slice none 0 0)), none⟩,
 ⟨some 5, .move (.const (.int .i64 2)), none⟩])
 (.ret))
 (.seq (.ops [⟨some 56, .move (.tmp 8), none⟩,
 ⟨some 57, .un .not (.tmp 56), none⟩,
 ⟨some 55, .move (.tmp 57), none⟩])
 (.cond (.tmp 55)
 (.seq (.ops [⟨some 4, .move (.const (.slice none 0 0)), none⟩,
 ⟨some 5, .move (.const (.int .i64 7)), none⟩])
 (.ret))
 (.skip))))))
 (.seq (.draw [(⟨some 59, .move (.tmp 0), none⟩, []),
 (⟨some 60, .nilCheck (.tmp 59), none⟩, []),
 (⟨some 61, .fieldAddr 2 (.tmp 60), none⟩, []),
 (⟨some 62, .load1 (.tmp 61), none⟩, []),
 (⟨some 63, .fieldAddr 3 (.tmp 3), none⟩, []),
 (⟨some 64, .load1 (.tmp 63), none⟩, []),
 (⟨some 9, .alloc [.int .i64 0, .int .i64 0, .int .i64 0, .int .i64 0], none⟩, []),
 (⟨some 65, .call (F 388) [.tmp 62, .tmp 64], none⟩, []),
 (⟨some 58, .move (.tmp 65), none⟩, []),
 (⟨some 66, .extract (.tmp 58) 0, none⟩, []),
 (⟨some 67, .extract (.tmp 58) 1, none⟩, []),
 (⟨none, .store 4 (.tmp 9) (.tmp 66), none⟩, []),
 (⟨some 10, .move (.tmp 67), none⟩, [])])
 (.seq (.draw [(⟨some 69, .move (.tmp 0), none⟩, []),
 (⟨some 70, .nilCheck (.tmp 69), none⟩, []),
 (⟨some 71, .fieldAddr 2 (.tmp 70), none⟩, []),
 (⟨some 72, .load1 (.tmp 71), none⟩, []),
 (⟨some 73, .fieldAddr 3 (.tmp 3), none⟩, []),
 (⟨some 74, .load1 (.tmp 73), none⟩, []),
 (⟨some 75, .fieldAddr 4 (.tmp 3), none⟩, []),
 (⟨some 76, .load1 (.tmp 75), none⟩, []),
 (⟨some 77, .fieldAddr 5 (.tmp 3), none⟩, []),
 (⟨some 78, .load1 (.tmp 77), none⟩, []),
 (⟨some 79, .fieldAddr 6 (.tmp 3), none⟩, []),
 (⟨some 80, .load1 (.tmp 79), none⟩, []),
 (⟨some 81, .fieldAddr 7 (.tmp 3), none⟩, []),
 (⟨some 82, .load1 (.tmp 81), none⟩, []),
 (⟨some 83, .build [.int .i64 0, .int .i64 0, .int .i64 0, .int .i64 0] [((0, 1), .tmp 78), ((1, 1), .tmp 80), ((2, 1), .tmp 82)], none⟩, []),
 (⟨some 84, .call (F 389) [.tmp 72, .tmp 74, .tmp 76, .tmp 83], none⟩, []),
 (⟨some 68, .move (.tmp 84), none⟩, []),
 (⟨some 85, .extract (.tmp 68) 0, none⟩, []),
 (⟨some 86, .extract (.tmp 68) 1, none⟩, []),
 (⟨some 11, .move (.tmp 85), none⟩, []),
 (⟨some 12, .move (.tmp 86), none⟩, [])])
 (.seq (.seq (.ops [⟨some 87, .move (.tmp 12), none⟩,
 ⟨some 88, .bin .eql (.tmp 87) (.const (.int .i64 0)), none⟩,
 ⟨some 89, .move (.tmp 88), none⟩,
 ⟨some 90, .move (.tmp 10), some (89, true)⟩,
 ⟨some 91, .pick (.tmp 89) (.tmp 90) (.const (.bool false)), none⟩])
 (.cond (.tmp 91)
 (.draw [(⟨some 92, .move (.tmp 0), none⟩, []),
 (⟨some 93, .nilCheck (.tmp 92), none⟩, []),
 (⟨some 94, .fieldAddr 3 (.tmp 93), none⟩, []),
 (⟨some 95, .load1 (.tmp 94), none⟩, []),
 (⟨some 96, .fieldAddr 0 (.tmp 9), none⟩, []),
 (⟨some 97, .load1 (.tmp 96), none⟩, []),
 (⟨some 98, .fieldAddr 2 (.tmp 9), none⟩, []),
 (⟨some 99, .load1 (.tmp 98), none⟩, []),
 (⟨some 100, .call (F 245) [.tmp 95, .tmp 97, .tmp 99], none⟩, [])])
 (.skip)))
 (.seq (.ops [⟨some 101, .move (.tmp 11), none⟩,
 ⟨some 102, .buildSlice 1 [.int .i64 0] [((0, 1), .tmp 101)], none⟩,
 ⟨some 103, .move (.tmp 12), none⟩,
 ⟨some 4, .move (.tmp 102), none⟩,
 ⟨some 5, .move (.tmp 103), none⟩])
 (.ret))))))))⟩
/-- (*hurdle/manager.Manager).fail -/
def c_manager_Manager_fail (F : Nat → FuncId) (Ty : Nat → TypeId) : IFunc := ⟨30, [.tmp 4, .tmp 5],
 .seq (.ops [⟨some 3, .box (.tmp 1), none⟩,
 ⟨some 4, .move (.const (.slice none 0 0)), none⟩,
 ⟨some 5, .move (.const (.int .i64 0)), none⟩])
 (.seq (.draw [(⟨some 7, .move (.tmp 0), none⟩, []),
 (⟨some 8, .nilCheck (.tmp 7), none⟩, []),
 (⟨some 9, .fieldAddr 0 (.tmp 8), none⟩, []),
 (⟨some 10, .load1 (.tmp 9), none⟩, []),
 (⟨some 11, .fieldAddr 3 (.tmp 3), none⟩, []),
 (⟨some 12, .load1 (.tmp 11), none⟩, []),
 (⟨some 13, .fieldAddr 4 (.tmp 3), none⟩, []),
 (⟨some 14, .load1 (.tmp 13), none⟩, []),
 (⟨some 15, .call (F 103) [.tmp 10, .tmp 12, .tmp 14], none⟩, []),
 (⟨some 6, .move (.tmp 15), none⟩, [])])
 (.seq (.seq (.ops [⟨some 16, .move (.tmp 6), none⟩,
 ⟨some 17, .bin .eql (.tmp 16) (.const (.int .i64 0)), none⟩])
 (.cond (.tmp 17)
 (.ops [⟨some 18, .move (.tmp 0), none⟩,
 ⟨some 19, .fieldAddr 3 (.tmp 3), none⟩,
 ⟨some 20, .load1 (.tmp 19), none⟩,
 ⟨some 21, .nilCheck (.tmp 18), none⟩,
 ⟨some 22, .fieldAddr 6 (.tmp 21), none⟩,
 ⟨none, .store 1 (.tmp 22) (.tmp 20), none⟩])
 (.skip)))
 (.seq (.ops [⟨some 23, .move (.tmp 0), none⟩,
 ⟨some 24, .nilCheck (.tmp 23), none⟩,
 ⟨some 25, .fieldAddr 0 (.tmp 24), none⟩,
 ⟨some 26, .load1 (.tmp 25), none⟩,
 ⟨some 27, .call (F 98) [.tmp 26], none⟩,
 ⟨some 28, .buildSlice 1 [.int .i64 0] [((0, 1), .tmp 27)], none⟩,
 ⟨some 29, .move (.tmp 6), none⟩,
 ⟨some 4, .move (.tmp 28), none⟩,
 ⟨some 5, .move (.tmp 29), none⟩])
 (.ret))))⟩
/-- (*hurdle/manager.Manager).swap -/
def c_manager_Manager_swap (F : Nat → FuncId) (Ty : Nat → TypeId) : IFunc := ⟨70, [.tmp 4, .tmp 5],
 .seq (.ops [⟨some 3, .box (.tmp 1), none⟩,
 ⟨some 4, .move (.const (.slice none 0 0)), none⟩,
 ⟨some 5, .move (.const (.int .i64 0)), none⟩])
 (.seq (.draw [(⟨some 13, .move (.tmp 0), none⟩, []),
 (⟨some 14, .nilCheck (.tmp 13), none⟩, []),
 (⟨some 15, .fieldAddr 0 (.tmp 14), none⟩, []),
 (⟨some 16, .load1 (.tmp 15), none⟩, []),
 (⟨some 17, .fieldAddr 3 (.tmp 3), none⟩, []),
 (⟨some 18, .load1 (.tmp 17), none⟩, []),
 (⟨some 19, .call (F 104) [.tmp 16, .tmp 18], none⟩, []),
 (⟨some 12, .move (.tmp 19), none⟩, []),
 (⟨some 20, .extract (.tmp 12) 0, none⟩, []),
 (⟨some 21, .extract (.tmp 12) 1, none⟩, []),
 (⟨some 6, .move (.tmp 20), none⟩, []),
 (⟨some 7, .move (.tmp 21), none⟩, [])])
 (.seq (.seq (.ops [⟨some 22, .move (.tmp 7), none⟩,
 ⟨some 23, .bin .neq (.tmp 22) (.const (.int .i64 0)), none⟩])
 (.cond (.tmp 23)
 (.seq (.ops [⟨some 24, .move (.tmp 7), none⟩,
 ⟨some 4, .move (.const (.slice none 0 0)), none⟩,
 ⟨some 5, .move (.tmp 24), none⟩])
 (.ret))
 (.skip)))
 (.seq (.seq (.draw [(⟨some 25, .move (.tmp 0), none⟩, []),
 (⟨some 26, .nilCheck (.tmp 25), none⟩, []),
 (⟨some 27, .fieldAddr 1 (.tmp 26), none⟩, []),
 (⟨some 28, .load1 (.tmp 27), none⟩, []),
 (⟨some 29, .move (.tmp 0), none⟩, []),
 (⟨some 30, .nilCheck (.tmp 29), none⟩, []),
 (⟨some 31, .fieldAddr 6 (.tmp 30), none⟩, []),
 (⟨some 32, .load1 (.tmp 31), none⟩, []),
 (⟨some 35, .move (.const (.int .i64 0)), none⟩, []),
 (⟨some 33, .call (F 146) [.tmp 28, .tmp 32], none⟩, []),
 (⟨some 34, .lenSl (.tmp 33), none⟩, [])])
 (.block 0 (.loop (.seq (.ops [⟨some 36, .bin .lss (.tmp 35) (.tmp 34), none⟩])
 (.seq (.cond (.tmp 36)
 (.skip)
 (.exit 0))
 (.seq (.block 1 (.seq (.ops [⟨some 37, .idxSl 1 (.tmp 33) (.tmp 35), none⟩,
 ⟨some 38, .load1 (.tmp 37), none⟩,
 ⟨some 9, .move (.tmp 38), none⟩])
 (.seq (.ops [⟨some 40, .move (.tmp 0), none⟩,
 ⟨some 41, .nilCheck (.tmp 40), none⟩,
 ⟨some 42, .fieldAddr 1 (.tmp 41), none⟩,
 ⟨some 43, .load1 (.tmp 42), none⟩,
 ⟨some 44, .move (.tmp 9), none⟩,
 ⟨some 45, .call (F 143) [.tmp 43, .tmp 44], none⟩,
 ⟨some 39, .move (.tmp 45), none⟩,
 ⟨some 46, .extract (.tmp 39) 0, none⟩,
 ⟨some 47, .extract (.tmp 39) 1, none⟩,
 ⟨some 10, .alloc [.int .i64 0, .int .i64 0, .int .i64 0, .int .i64 0, .int .i64 0, .slice none 0 0], none⟩,
 ⟨none, .store 6 (.tmp 10) (.tmp 46), none⟩,
 ⟨some 11, .move (.tmp 47), none⟩])
 (.draw [(⟨some 48, .move (.tmp 0), none⟩, []),
 (⟨some 49, .nilCheck (.tmp 48), none⟩, []),
 (⟨some 50, .fieldAddr 1 (.tmp 49), none⟩, []),
 (⟨some 51, .load1 (.tmp 50), none⟩, []),
 (⟨some 52, .move (.tmp 9), none⟩, []),
 (⟨some 53, .fieldAddr 5 (.tmp 10), none⟩, []),
 (⟨some 54, .load1 (.tmp 53), none⟩, []),
 (⟨some 55, .move (.tmp 0), none⟩, []),
 (⟨some 56, .nilCheck (.tmp 55), none⟩, []),
 (⟨some 57, .fieldAddr 6 (.tmp 56), none⟩, []),
 (⟨some 58, .load1 (.tmp 57), none⟩, []),
 (⟨some 60, .move (.tmp 6), none⟩, []),
 (⟨some 59, .call (F 110) [.tmp 54, .tmp 58], none⟩, [⟨some 51, .load1 (.tmp 50), none⟩]),
 (⟨some 61, .call (F 142) [.tmp 51, .tmp 52, .tmp 59, .tmp 60], none⟩, [])]))))
 (.ops [⟨some 62, .bin .add (.tmp 35) (.const (.int .i64 1)), none⟩,
 ⟨some 35, .move (.tmp 62), none⟩])))))))
 (.seq (.ops [⟨some 63, .move (.tmp 6), none⟩,
 ⟨some 64, .move (.tmp 0), none⟩,
 ⟨some 65, .nilCheck (.tmp 64), none⟩,
 ⟨some 66, .fieldAddr 0 (.tmp 65), none⟩,
 ⟨some 67, .load1 (.tmp 66), none⟩,
 ⟨some 68, .call (F 98) [.tmp 67], none⟩,
 ⟨some 69, .buildSlice 2 [.int .i64 0, .int .i64 0] [((0, 1), .tmp 63), ((1, 1), .tmp 68)], none⟩,
 ⟨some 4, .move (.tmp 69), none⟩,
 ⟨some 5, .move (.const (.int .i64 0)), none⟩])
 (.ret)))))⟩
/-- (*hurdle/manager.Manager).close -/
def c_manager_Manager_close (F : Nat → FuncId) (Ty : Nat → TypeId) : IFunc := ⟨21, [.tmp 4, .tmp 5],
 .seq (.ops [⟨some 3, .box (.tmp 1), none⟩,
 ⟨some 4, .move (.const (.slice none 0 0)), none⟩,
 ⟨some 5, .move (.const (.int .i64 0)), none⟩])
 (.seq (.draw [(⟨some 7, .move (.tmp 0), none⟩, []),
 (⟨some 8, .nilCheck (.tmp 7), none⟩, []),
 (⟨some 9, .fieldAddr 0 (.tmp 8), none⟩, []),
 (⟨some 10, .load1 (.tmp 9), none⟩, []),
 (⟨some 11, .fieldAddr 3 (.tmp 3), none⟩, []),
 (⟨some 12, .load1 (.tmp 11), none⟩, []),
 (⟨some 13, .call (F 105) [.tmp 10, .tmp 12], none⟩, []),
 (⟨some 6, .move (.tmp 13), none⟩, [])])
 (.seq (.ops [⟨some 14, .move (.tmp 0), none⟩,
 ⟨some 15, .nilCheck (.tmp 14), none⟩,
 ⟨some 16, .fieldAddr 0 (.tmp 15), none⟩,
 ⟨some 17, .load1 (.tmp 16), none⟩,
 ⟨some 18, .call (F 98) [.tmp 17], none⟩,
 ⟨some 19, .buildSlice 1 [.int .i64 0] [((0, 1), .tmp 18)], none⟩,
 ⟨some 20, .move (.tmp 6), none⟩,
 ⟨some 4, .move (.tmp 19), none⟩,
 ⟨some 5, .move (.tmp 20), none⟩])
 (.ret)))⟩
/-- (*hurdle/manager.Manager).grant -/
def c_manager_Manager_grant (F : Nat → FuncId) (Ty : Nat → TypeId) : IFunc := ⟨30, [.tmp 4, .tmp 5],
 .seq (.ops [⟨some 3, .box (.tmp 1), none⟩,
 ⟨some 4, .move (.const (.slice none 0 0)), none⟩,
 ⟨some 5, .move (.const (.int .i64 0)), none⟩])
 (.seq (.draw [(⟨some 9, .move (.tmp 0), none⟩, []),
 (⟨some 10, .nilCheck (.tmp 9), none⟩, []),
 (⟨some 11, .fieldAddr 4 (.tmp 10), none⟩, []),
 (⟨some 12, .load1 (.tmp 11), none⟩, []),
 (⟨some 13, .fieldAddr 3 (.tmp 3), none⟩, []),
 (⟨some 14, .load1 (.tmp 13), none⟩, []),
 (⟨some 15, .fieldAddr 0 (.tmp 3), none⟩, []),
 (⟨some 16, .load1 (.tmp 15), none⟩, []),
 (⟨some 17, .fieldAddr 4 (.tmp 3), none⟩, []),
 (⟨some 18, .load1 (.tmp 17), none⟩, []),
 (⟨some 19, .fieldAddr 5 (.tmp 3), none⟩, []),
 (⟨some 20, .load1 (.tmp 19), none⟩, []),
 (⟨some 6, .alloc [.int .i64 0, .int .i64 0, .int .i64 0, .int .i64 0], none⟩, []),
 (⟨some 21, .call (F 391) [.tmp 12, .tmp 14, .tmp 16, .tmp 18, .tmp 20], none⟩, []),
 (⟨some 8, .move (.tmp 21), none⟩, []),
 (⟨some 22, .extract (.tmp 8) 0, none⟩, []),
 (⟨some 23, .extract (.tmp 8) 1, none⟩, []),
 (⟨none, .store 4 (.tmp 6) (.tmp 22), none⟩, []),
 (⟨some 7, .move (.tmp 23), none⟩, [])])
 (.seq (.ops [⟨some 24, .fieldAddr 3 (.tmp 6), none⟩,
 ⟨some 25, .load1 (.tmp 24), none⟩,
 ⟨some 26, .fieldAddr 2 (.tmp 6), none⟩,
 ⟨some 27, .load1 (.tmp 26), none⟩,
 ⟨some 28, .buildSlice 2 [.int .i64 0, .int .i64 0] [((0, 1), .tmp 25), ((1, 1), .tmp 27)], none⟩,
 ⟨some 29, .move (.tmp 7), none⟩,
 ⟨some 4, .move (.tmp 28), none⟩,
 ⟨some 5, .move (.tmp 29), none⟩])
 (.ret)))⟩
/-- (*hurdle/manager.Manager).drop -/
def c_manager_Manager_drop (F : Nat → FuncId) (Ty : Nat → TypeId) : IFunc := ⟨17, [.tmp 4, .tmp 5],
 .seq (.ops [⟨some 3, .box (.tmp 1), none⟩,
 ⟨some 4, .move (.const (.slice none 0 0)), none⟩,
 ⟨some 5, .move (.const (.int .i64 0)), none⟩])
 (.seq (.draw [(⟨some 6, .move (.tmp 0), none⟩, []),
 (⟨some 7, .nilCheck (.tmp 6), none⟩, []),
 (⟨some 8, .fieldAddr 4 (.tmp 7), none⟩, []),
 (⟨some 9, .load1 (.tmp 8), none⟩, []),
 (⟨some 10, .fieldAddr 3 (.tmp 3), none⟩, []),
 (⟨some 11, .load1 (.tmp 10), none⟩, []),
 (⟨some 12, .fieldAddr 0 (.tmp 3), none⟩, []),
 (⟨some 13, .load1 (.tmp 12), none⟩, []),
 (⟨some 14, .fieldAddr 4 (.tmp 3), none⟩, []),
 (⟨some 15, .load1 (.tmp 14), none⟩, []),
 (⟨some 16, .call (F 392) [.tmp 9, .tmp 11, .tmp 13, .tmp 15], none⟩, []),
 (⟨some 4, .move (.const (.slice none 0 0)), none⟩, []),
 (⟨some 5, .move (.tmp 16), none⟩, [])])
 (.ret))⟩
/-- A context has these functions. -/
structure HasMgr28 (c : Ctx) : Prop where
 manager_New : c.IP (c.F 393) = some (c_manager_New c.F c.Ty)
 manager_ints : c.IP (c.F 394) = some (c_manager_ints c.F c.Ty)
 manager_Encode : c.IP (c.F 395) = some (c_manager_Encode c.F c.Ty)
 manager_Decode : c.IP (c.F 396) = some (c_manager_Decode c.F c.Ty)
 manager_answer : c.IP (c.F 397) = some (c_manager_answer c.F c.Ty)
 manager_Answer : c.IP (c.F 398) = some (c_manager_Answer c.F c.Ty)
 manager_does : c.IP (c.F 399) = some (c_manager_does c.F c.Ty)
 manager_Manager_Do : c.IP (c.F 400) = some (c_manager_Manager_Do c.F c.Ty)
 manager_Manager_Stripe : c.IP (c.F 401) = some (c_manager_Manager_Stripe c.F c.Ty)
 manager_Manager_Spot : c.IP (c.F 402) = some (c_manager_Manager_Spot c.F c.Ty)
 manager_Manager_Servers : c.IP (c.F 403) = some (c_manager_Manager_Servers c.F c.Ty)
 manager_Manager_Epoch : c.IP (c.F 404) = some (c_manager_Manager_Epoch c.F c.Ty)
 manager_Manager_Stripes : c.IP (c.F 405) = some (c_manager_Manager_Stripes c.F c.Ty)
 manager_Manager_begin : c.IP (c.F 406) = some (c_manager_Manager_begin c.F c.Ty)
 manager_Manager_commit : c.IP (c.F 407) = some (c_manager_Manager_commit c.F c.Ty)
 manager_Manager_free : c.IP (c.F 408) = some (c_manager_Manager_free c.F c.Ty)
 manager_Manager_move : c.IP (c.F 409) = some (c_manager_Manager_move c.F c.Ty)
 manager_Manager_fail : c.IP (c.F 410) = some (c_manager_Manager_fail c.F c.Ty)
 manager_Manager_swap : c.IP (c.F 411) = some (c_manager_Manager_swap c.F c.Ty)
 manager_Manager_close : c.IP (c.F 412) = some (c_manager_Manager_close c.F c.Ty)
 manager_Manager_grant : c.IP (c.F 413) = some (c_manager_Manager_grant c.F c.Ty)
 manager_Manager_drop : c.IP (c.F 414) = some (c_manager_Manager_drop c.F c.Ty)

end Go.Proofs.YtndndcdblfejnaaGreatRI
namespace Go.Proofs.YtndndcdblfejnaaGreatRI
set_option linter.unusedSimpArgs false
set_option linter.unusedVariables false
open Go

/-- hurdle/hurdleref28.Encode -/
abbrev n_hurdleref28_Encode : Nat := 415
/-- hurdle/hurdleref28.Decode -/
abbrev n_hurdleref28_Decode : Nat := 416
/-- hurdle/hurdleref28.Answer -/
abbrev n_hurdleref28_Answer : Nat := 417
/-- hurdle/hurdleref24.Same -/
abbrev n_hurdleref24_Same : Nat := 167
/-- hurdle/hurdlelaw23.Few -/
abbrev n_hurdlelaw23_Few : Nat := 129
/-- hurdle/hurdlelaw28.ManagerBytes -/
abbrev n_hurdlelaw28_ManagerBytes : Nat := 418
/-- hurdle/hurdlelaw28.ManagerAlike -/
abbrev n_hurdlelaw28_ManagerAlike : Nat := 419
/-- hurdle/hurdlelaw28.ManagerFences -/
abbrev n_hurdlelaw28_ManagerFences : Nat := 420
/-- hurdle/hurdlelaw28.ManagerNone -/
abbrev n_hurdlelaw28_ManagerNone : Nat := 421
/-- hurdle/hurdlelaw28.awake -/
abbrev n_hurdlelaw28_awake : Nat := 422
/-- hurdle/hurdlelaw28.few -/
abbrev n_hurdlelaw28_few : Nat := 423
/-- hurdle/hurdlelaw28.bytes -/
abbrev n_hurdlelaw28_bytes : Nat := 424
/-- hurdle/hurdlelaw28.text -/
abbrev n_hurdlelaw28_text : Nat := 425
/-- hurdle/hurdleref28.Encode -/
def c_hurdleref28_Encode (F : Nat → FuncId) (Ty : Nat → TypeId) : IFunc := ⟨63, [.tmp 2, .tmp 3],
 .seq (.ops [⟨some 1, .box (.tmp 0), none⟩,
 ⟨some 2, .move (.const (.string ⟨#[]⟩)), none⟩,
 ⟨some 3, .move (.const (.int .i64 0)), none⟩])
 (.seq (.seq (.ops [⟨some 4, .fieldAddr 0 (.tmp 1), none⟩,
 ⟨some 5, .load1 (.tmp 4), none⟩,
 ⟨some 6, .bin .lss (.tmp 5) (.const (.int .i64 0)), none⟩,
 ⟨some 7, .move (.tmp 6), none⟩,
 ⟨some 8, .fieldAddr 0 (.tmp 1), some (7, false)⟩,
 ⟨some 9, .load1 (.tmp 8), some (7, false)⟩,
 ⟨some 10, .bin .geq (.tmp 9) (.const (.int .i64 16)), some (7, false)⟩,
 ⟨some 11, .pick (.tmp 7) (.const (.bool true)) (.tmp 10), none⟩,
 ⟨some 12, .move (.tmp 11), none⟩,
 ⟨some 13, .fieldAddr 1 (.tmp 1), some (12, false)⟩,
 ⟨some 14, .load1 (.tmp 13), some (12, false)⟩,
 ⟨some 15, .bin .lss (.tmp 14) (.const (.int .i64 0)), some (12, false)⟩,
 ⟨some 16, .pick (.tmp 12) (.const (.bool true)) (.tmp 15), none⟩,
 ⟨some 17, .move (.tmp 16), none⟩,
 ⟨some 18, .fieldAddr 1 (.tmp 1), some (17, false)⟩,
 ⟨some 19, .load1 (.tmp 18), some (17, false)⟩,
 ⟨some 20, .bin .geq (.tmp 19) (.const (.int .i64 2147483648)), some (17, false)⟩,
 ⟨some 21, .pick (.tmp 17) (.const (.bool true)) (.tmp 20), none⟩,
 ⟨some 22, .move (.tmp 21), none⟩,
 ⟨some 23, .fieldAddr 2 (.tmp 1), some (22, false)⟩,
 ⟨some 24, .load1 (.tmp 23), some (22, false)⟩,
 ⟨some 25, .bin .lss (.tmp 24) (.const (.int .i64 1)), some (22, false)⟩,
 ⟨some 26, .pick (.tmp 22) (.const (.bool true)) (.tmp 25), none⟩,
 ⟨some 27, .move (.tmp 26), none⟩,
 ⟨some 28, .fieldAddr 2 (.tmp 1), some (27, false)⟩,
 ⟨some 29, .load1 (.tmp 28), some (27, false)⟩,
 ⟨some 30, .bin .gtr (.tmp 29) (.const (.int .i64 9)), some (27, false)⟩,
 ⟨some 31, .pick (.tmp 27) (.const (.bool true)) (.tmp 30), none⟩])
 (.cond (.tmp 31)
 (.seq (.ops [⟨some 2, .move (.const (.string ⟨#[]⟩)), none⟩,
 ⟨some 3, .move (.const (.int .i64 1)), none⟩])
 (.ret))
 (.skip)))
 (.seq (.draw [(⟨some 32, .fieldAddr 0 (.tmp 1), none⟩, []),
 (⟨some 33, .load1 (.tmp 32), none⟩, []),
 (⟨some 35, .fieldAddr 1 (.tmp 1), none⟩, []),
 (⟨some 36, .load1 (.tmp 35), none⟩, []),
 (⟨some 39, .fieldAddr 2 (.tmp 1), none⟩, []),
 (⟨some 40, .load1 (.tmp 39), none⟩, []),
 (⟨some 43, .fieldAddr 3 (.tmp 1), none⟩, []),
 (⟨some 44, .load1 (.tmp 43), none⟩, []),
 (⟨some 47, .fieldAddr 4 (.tmp 1), none⟩, []),
 (⟨some 48, .load1 (.tmp 47), none⟩, []),
 (⟨some 51, .fieldAddr 5 (.tmp 1), none⟩, []),
 (⟨some 52, .load1 (.tmp 51), none⟩, []),
 (⟨some 55, .fieldAddr 6 (.tmp 1), none⟩, []),
 (⟨some 56, .load1 (.tmp 55), none⟩, []),
 (⟨some 59, .fieldAddr 7 (.tmp 1), none⟩, []),
 (⟨some 60, .load1 (.tmp 59), none⟩, []),
 (⟨some 34, .call (F 62) [.tmp 33], none⟩, [⟨some 36, .load1 (.tmp 35), none⟩, ⟨some 40, .load1 (.tmp 39), none⟩, ⟨some 44, .load1 (.tmp 43), none⟩, ⟨some 48, .load1 (.tmp 47), none⟩, ⟨some 52, .load1 (.tmp 51), none⟩, ⟨some 56, .load1 (.tmp 55), none⟩, ⟨some 60, .load1 (.tmp 59), none⟩]),
 (⟨some 37, .call (F 62) [.tmp 36], none⟩, [⟨some 40, .load1 (.tmp 39), none⟩, ⟨some 44, .load1 (.tmp 43), none⟩, ⟨some 48, .load1 (.tmp 47), none⟩, ⟨some 52, .load1 (.tmp 51), none⟩, ⟨some 56, .load1 (.tmp 55), none⟩, ⟨some 60, .load1 (.tmp 59), none⟩]),
 (⟨some 38, .bin .add (.tmp 34) (.tmp 37), none⟩, []),
 (⟨some 41, .call (F 62) [.tmp 40], none⟩, [⟨some 44, .load1 (.tmp 43), none⟩, ⟨some 48, .load1 (.tmp 47), none⟩, ⟨some 52, .load1 (.tmp 51), none⟩, ⟨some 56, .load1 (.tmp 55), none⟩, ⟨some 60, .load1 (.tmp 59), none⟩]),
 (⟨some 42, .bin .add (.tmp 38) (.tmp 41), none⟩, []),
 (⟨some 45, .call (F 62) [.tmp 44], none⟩, [⟨some 48, .load1 (.tmp 47), none⟩, ⟨some 52, .load1 (.tmp 51), none⟩, ⟨some 56, .load1 (.tmp 55), none⟩, ⟨some 60, .load1 (.tmp 59), none⟩]),
 (⟨some 46, .bin .add (.tmp 42) (.tmp 45), none⟩, []),
 (⟨some 49, .call (F 62) [.tmp 48], none⟩, [⟨some 52, .load1 (.tmp 51), none⟩, ⟨some 56, .load1 (.tmp 55), none⟩, ⟨some 60, .load1 (.tmp 59), none⟩]),
 (⟨some 50, .bin .add (.tmp 46) (.tmp 49), none⟩, []),
 (⟨some 53, .call (F 62) [.tmp 52], none⟩, [⟨some 56, .load1 (.tmp 55), none⟩, ⟨some 60, .load1 (.tmp 59), none⟩]),
 (⟨some 54, .bin .add (.tmp 50) (.tmp 53), none⟩, []),
 (⟨some 57, .call (F 62) [.tmp 56], none⟩, [⟨some 60, .load1 (.tmp 59), none⟩]),
 (⟨some 58, .bin .add (.tmp 54) (.tmp 57), none⟩, []),
 (⟨some 61, .call (F 62) [.tmp 60], none⟩, []),
 (⟨some 62, .bin .add (.tmp 58) (.tmp 61), none⟩, []),
 (⟨some 2, .move (.tmp 62), none⟩, []),
 (⟨some 3, .move (.const (.int .i64 0)), none⟩, [])])
 (.ret)))⟩
/-- hurdle/hurdleref28.Decode -/
def c_hurdleref28_Decode (F : Nat → FuncId) (Ty : Nat → TypeId) : IFunc := ⟨86, [.cellN 2 8, .tmp 3],
 .seq (.ops [⟨some 2, .alloc [.int .i64 0, .int .i64 0, .int .i64 0, .int .i64 0, .int .i64 0, .int .i64 0, .int .i64 0, .int .i64 0], none⟩,
 ⟨some 3, .move (.const (.int .i64 0)), none⟩])
 (.seq (.ops [⟨some 16, .move (.tmp 0), none⟩,
 ⟨some 17, .build [.string ⟨#[]⟩, .bool false] [((0, 1), .tmp 16)], none⟩,
 ⟨some 4, .alloc [.string ⟨#[]⟩, .bool false], none⟩,
 ⟨none, .store 2 (.tmp 4) (.tmp 17), none⟩])
 (.seq (.ops [⟨some 19, .loadN 2 (.tmp 4), none⟩,
 ⟨some 20, .call (F 67) [.tmp 19], none⟩,
 ⟨some 18, .move (.tmp 20), none⟩,
 ⟨some 21, .extract (.tmp 18) 0, none⟩,
 ⟨some 22, .extract (.tmp 18) 1, none⟩,
 ⟨none, .store 2 (.tmp 4) (.tmp 21), none⟩,
 ⟨some 5, .move (.tmp 22), none⟩])
 (.seq (.ops [⟨some 24, .loadN 2 (.tmp 4), none⟩,
 ⟨some 25, .call (F 67) [.tmp 24], none⟩,
 ⟨some 23, .move (.tmp 25), none⟩,
 ⟨some 26, .extract (.tmp 23) 0, none⟩,
 ⟨some 27, .extract (.tmp 23) 1, none⟩,
 ⟨none, .store 2 (.tmp 4) (.tmp 26), none⟩,
 ⟨some 6, .move (.tmp 27), none⟩])
 (.seq (.ops [⟨some 29, .loadN 2 (.tmp 4), none⟩,
 ⟨some 30, .call (F 67) [.tmp 29], none⟩,
 ⟨some 28, .move (.tmp 30), none⟩,
 ⟨some 31, .extract (.tmp 28) 0, none⟩,
 ⟨some 32, .extract (.tmp 28) 1, none⟩,
 ⟨none, .store 2 (.tmp 4) (.tmp 31), none⟩,
 ⟨some 7, .move (.tmp 32), none⟩])
 (.seq (.ops [⟨some 34, .loadN 2 (.tmp 4), none⟩,
 ⟨some 35, .call (F 67) [.tmp 34], none⟩,
 ⟨some 33, .move (.tmp 35), none⟩,
 ⟨some 36, .extract (.tmp 33) 0, none⟩,
 ⟨some 37, .extract (.tmp 33) 1, none⟩,
 ⟨none, .store 2 (.tmp 4) (.tmp 36), none⟩,
 ⟨some 8, .move (.tmp 37), none⟩])
 (.seq (.ops [⟨some 39, .loadN 2 (.tmp 4), none⟩,
 ⟨some 40, .call (F 67) [.tmp 39], none⟩,
 ⟨some 38, .move (.tmp 40), none⟩,
 ⟨some 41, .extract (.tmp 38) 0, none⟩,
 ⟨some 42, .extract (.tmp 38) 1, none⟩,
 ⟨none, .store 2 (.tmp 4) (.tmp 41), none⟩,
 ⟨some 9, .move (.tmp 42), none⟩])
 (.seq (.ops [⟨some 44, .loadN 2 (.tmp 4), none⟩,
 ⟨some 45, .call (F 67) [.tmp 44], none⟩,
 ⟨some 43, .move (.tmp 45), none⟩,
 ⟨some 46, .extract (.tmp 43) 0, none⟩,
 ⟨some 47, .extract (.tmp 43) 1, none⟩,
 ⟨none, .store 2 (.tmp 4) (.tmp 46), none⟩,
 ⟨some 10, .move (.tmp 47), none⟩])
 (.seq (.ops [⟨some 49, .loadN 2 (.tmp 4), none⟩,
 ⟨some 50, .call (F 67) [.tmp 49], none⟩,
 ⟨some 48, .move (.tmp 50), none⟩,
 ⟨some 51, .extract (.tmp 48) 0, none⟩,
 ⟨some 52, .extract (.tmp 48) 1, none⟩,
 ⟨none, .store 2 (.tmp 4) (.tmp 51), none⟩,
 ⟨some 11, .move (.tmp 52), none⟩])
 (.seq (.ops [⟨some 54, .loadN 2 (.tmp 4), none⟩,
 ⟨some 55, .call (F 67) [.tmp 54], none⟩,
 ⟨some 53, .move (.tmp 55), none⟩,
 ⟨some 56, .extract (.tmp 53) 0, none⟩,
 ⟨some 57, .extract (.tmp 53) 1, none⟩,
 ⟨none, .store 2 (.tmp 4) (.tmp 56), none⟩,
 ⟨some 12, .move (.tmp 57), none⟩])
 (.seq (.ops [⟨some 58, .move (.tmp 5), none⟩,
 ⟨some 59, .move (.tmp 6), none⟩,
 ⟨some 60, .move (.tmp 7), none⟩,
 ⟨some 61, .move (.tmp 8), none⟩,
 ⟨some 62, .move (.tmp 9), none⟩,
 ⟨some 63, .move (.tmp 10), none⟩,
 ⟨some 64, .move (.tmp 11), none⟩,
 ⟨some 65, .move (.tmp 12), none⟩,
 ⟨some 66, .build [.int .i64 0, .int .i64 0, .int .i64 0, .int .i64 0, .int .i64 0, .int .i64 0, .int .i64 0, .int .i64 0] [((0, 1), .tmp 58), ((1, 1), .tmp 59), ((2, 1), .tmp 60), ((3, 1), .tmp 61), ((4, 1), .tmp 62), ((5, 1), .tmp 63), ((6, 1), .tmp 64), ((7, 1), .tmp 65)], none⟩,
 ⟨some 13, .alloc [.int .i64 0, .int .i64 0, .int .i64 0, .int .i64 0, .int .i64 0, .int .i64 0, .int .i64 0, .int .i64 0], none⟩,
 ⟨none, .store 8 (.tmp 13) (.tmp 66), none⟩])
 (.seq (.seq (.ops [⟨some 68, .loadN 8 (.tmp 13), none⟩,
 ⟨some 69, .call (F 415) [.tmp 68], none⟩,
 ⟨some 67, .move (.tmp 69), none⟩,
 ⟨some 70, .extract (.tmp 67) 0, none⟩,
 ⟨some 71, .extract (.tmp 67) 1, none⟩,
 ⟨some 14, .move (.tmp 70), none⟩,
 ⟨some 15, .move (.tmp 71), none⟩])
 (.seq (.ops [⟨some 72, .move (.tmp 15), none⟩,
 ⟨some 73, .bin .neq (.tmp 72) (.const (.int .i64 0)), none⟩,
 ⟨some 74, .move (.tmp 73), none⟩,
 ⟨some 75, .loadN 2 (.tmp 4), some (74, false)⟩,
 ⟨some 76, .call (F 56) [.tmp 75], some (74, false)⟩,
 ⟨some 77, .bin .neq (.tmp 76) (.const (.int .i64 0)), some (74, false)⟩,
 ⟨some 78, .pick (.tmp 74) (.const (.bool true)) (.tmp 77), none⟩,
 ⟨some 79, .move (.tmp 78), none⟩,
 ⟨some 80, .move (.tmp 14), some (79, false)⟩,
 ⟨some 81, .move (.tmp 0), some (79, false)⟩,
 ⟨some 82, .bin .neq (.tmp 80) (.tmp 81), some (79, false)⟩,
 ⟨some 83, .pick (.tmp 79) (.const (.bool true)) (.tmp 82), none⟩])
 (.cond (.tmp 83)
 (.seq (.ops [⟨some 84, .build [.int .i64 0, .int .i64 0, .int .i64 0, .int .i64 0, .int .i64 0, .int .i64 0, .int .i64 0, .int .i64 0] [], none⟩,
 ⟨none, .store 8 (.tmp 2) (.tmp 84), none⟩,
 ⟨some 3, .move (.const (.int .i64 3)), none⟩])
 (.ret))
 (.skip))))
 (.seq (.ops [⟨some 85, .loadN 8 (.tmp 13), none⟩,
 ⟨none, .store 8 (.tmp 2) (.tmp 85), none⟩,
 ⟨some 3, .move (.const (.int .i64 0)), none⟩])
 (.ret)))))))))))))⟩
/-- hurdle/hurdleref28.Answer -/
def c_hurdleref28_Answer (F : Nat → FuncId) (Ty : Nat → TypeId) : IFunc := ⟨24, [.tmp 2, .tmp 3, .tmp 4],
 .seq (.ops [⟨some 2, .move (.const (.int .i64 0)), none⟩,
 ⟨some 3, .move (.const (.slice none 0 0)), none⟩,
 ⟨some 4, .move (.const (.int .i64 0)), none⟩])
 (.seq (.ops [⟨some 9, .move (.tmp 0), none⟩,
 ⟨some 10, .build [.string ⟨#[]⟩, .bool false] [((0, 1), .tmp 9)], none⟩,
 ⟨some 11, .call (F 63) [.tmp 10], none⟩,
 ⟨some 8, .move (.tmp 11), none⟩,
 ⟨some 12, .extract (.tmp 8) 0, none⟩,
 ⟨some 13, .extract (.tmp 8) 1, none⟩,
 ⟨some 5, .alloc [.string ⟨#[]⟩, .bool false], none⟩,
 ⟨none, .store 2 (.tmp 5) (.tmp 12), none⟩,
 ⟨some 6, .move (.tmp 13), none⟩])
 (.seq (.ops [⟨some 15, .loadN 2 (.tmp 5), none⟩,
 ⟨some 16, .call (F 65) [.tmp 15], none⟩,
 ⟨some 14, .move (.tmp 16), none⟩,
 ⟨some 17, .extract (.tmp 14) 0, none⟩,
 ⟨some 18, .extract (.tmp 14) 1, none⟩,
 ⟨none, .store 2 (.tmp 5) (.tmp 17), none⟩,
 ⟨some 7, .move (.tmp 18), none⟩])
 (.seq (.seq (.ops [⟨some 19, .loadN 2 (.tmp 5), none⟩,
 ⟨some 20, .call (F 56) [.tmp 19], none⟩,
 ⟨some 21, .bin .neq (.tmp 20) (.const (.int .i64 0)), none⟩])
 (.cond (.tmp 21)
 (.seq (.ops [⟨some 2, .move (.const (.int .i64 0)), none⟩,
 ⟨some 3, .move (.const (.slice none 0 0)), none⟩,
 ⟨some 4, .move (.const (.int .i64 3)), none⟩])
 (.ret))
 (.skip)))
 (.seq (.ops [⟨some 22, .move (.tmp 6), none⟩,
 ⟨some 23, .move (.tmp 7), none⟩,
 ⟨some 2, .move (.tmp 22), none⟩,
 ⟨some 3, .move (.tmp 23), none⟩,
 ⟨some 4, .move (.const (.int .i64 0)), none⟩])
 (.ret)))))⟩
/-- hurdle/hurdleref24.Same -/
def c_hurdleref24_Same (F : Nat → FuncId) (Ty : Nat → TypeId) : IFunc := ⟨45, [.tmp 4],
 .seq (.ops [⟨some 2, .box (.tmp 0), none⟩,
 ⟨some 3, .box (.tmp 1), none⟩,
 ⟨some 4, .move (.const (.bool false)), none⟩])
 (.seq (.ops [⟨some 5, .fieldAddr 0 (.tmp 2), none⟩,
 ⟨some 6, .load1 (.tmp 5), none⟩,
 ⟨some 7, .fieldAddr 0 (.tmp 3), none⟩,
 ⟨some 8, .load1 (.tmp 7), none⟩,
 ⟨some 9, .bin .eql (.tmp 6) (.tmp 8), none⟩,
 ⟨some 10, .move (.tmp 9), none⟩,
 ⟨some 11, .fieldAddr 1 (.tmp 2), some (10, true)⟩,
 ⟨some 12, .load1 (.tmp 11), some (10, true)⟩,
 ⟨some 13, .fieldAddr 1 (.tmp 3), some (10, true)⟩,
 ⟨some 14, .load1 (.tmp 13), some (10, true)⟩,
 ⟨some 15, .bin .eql (.tmp 12) (.tmp 14), some (10, true)⟩,
 ⟨some 16, .pick (.tmp 10) (.tmp 15) (.const (.bool false)), none⟩,
 ⟨some 17, .move (.tmp 16), none⟩,
 ⟨some 18, .fieldAddr 2 (.tmp 2), some (17, true)⟩,
 ⟨some 19, .load1 (.tmp 18), some (17, true)⟩,
 ⟨some 20, .fieldAddr 2 (.tmp 3), some (17, true)⟩,
 ⟨some 21, .load1 (.tmp 20), some (17, true)⟩,
 ⟨some 22, .bin .eql (.tmp 19) (.tmp 21), some (17, true)⟩,
 ⟨some 23, .pick (.tmp 17) (.tmp 22) (.const (.bool false)), none⟩,
 ⟨some 24, .move (.tmp 23), none⟩,
 ⟨some 25, .fieldAddr 3 (.tmp 2), some (24, true)⟩,
 ⟨some 26, .load1 (.tmp 25), some (24, true)⟩,
 ⟨some 27, .fieldAddr 3 (.tmp 3), some (24, true)⟩,
 ⟨some 28, .load1 (.tmp 27), some (24, true)⟩,
 ⟨some 29, .bin .eql (.tmp 26) (.tmp 28), some (24, true)⟩,
 ⟨some 30, .pick (.tmp 24) (.tmp 29) (.const (.bool false)), none⟩,
 ⟨some 31, .move (.tmp 30), none⟩,
 ⟨some 32, .fieldAddr 4 (.tmp 2), some (31, true)⟩,
 ⟨some 33, .load1 (.tmp 32), some (31, true)⟩,
 ⟨some 34, .fieldAddr 4 (.tmp 3), some (31, true)⟩,
 ⟨some 35, .load1 (.tmp 34), some (31, true)⟩,
 ⟨some 36, .bin .eql (.tmp 33) (.tmp 35), some (31, true)⟩,
 ⟨some 37, .pick (.tmp 31) (.tmp 36) (.const (.bool false)), none⟩,
 ⟨some 38, .move (.tmp 37), none⟩,
 ⟨some 39, .fieldAddr 5 (.tmp 2), some (38, true)⟩,
 ⟨some 40, .load1 (.tmp 39), some (38, true)⟩,
 ⟨some 41, .fieldAddr 5 (.tmp 3), some (38, true)⟩,
 ⟨some 42, .load1 (.tmp 41), some (38, true)⟩,
 ⟨some 43, .call (F 69) [.tmp 40, .tmp 42], some (38, true)⟩,
 ⟨some 44, .pick (.tmp 38) (.tmp 43) (.const (.bool false)), none⟩,
 ⟨some 4, .move (.tmp 44), none⟩])
 (.ret))⟩
/-- hurdle/hurdlelaw23.Few -/
def c_hurdlelaw23_Few (F : Nat → FuncId) (Ty : Nat → TypeId) : IFunc := ⟨20, [.tmp 4],
 .seq (.ops [⟨some 2, .box (.tmp 0), none⟩,
 ⟨some 4, .move (.const (.int .i64 0)), none⟩])
 (.seq (.seq (.ops [⟨some 5, .fieldAddr 0 (.tmp 2), none⟩,
 ⟨some 6, .load1 (.tmp 5), none⟩,
 ⟨some 7, .lenSl (.tmp 6), none⟩,
 ⟨some 8, .bin .gtr (.tmp 7) (.const (.int .i64 20)), none⟩,
 ⟨some 9, .move (.tmp 8), none⟩,
 ⟨some 10, .fieldAddr 1 (.tmp 2), some (9, false)⟩,
 ⟨some 11, .load1 (.tmp 10), some (9, false)⟩,
 ⟨some 12, .lenSl (.tmp 11), some (9, false)⟩,
 ⟨some 13, .bin .gtr (.tmp 12) (.const (.int .i64 80)), some (9, false)⟩,
 ⟨some 14, .pick (.tmp 9) (.const (.bool true)) (.tmp 13), none⟩,
 ⟨some 15, .move (.tmp 14), none⟩,
 ⟨some 16, .move (.tmp 1), some (15, false)⟩,
 ⟨some 17, .lenSl (.tmp 16), some (15, false)⟩,
 ⟨some 18, .bin .gtr (.tmp 17) (.const (.int .i64 60)), some (15, false)⟩,
 ⟨some 19, .pick (.tmp 15) (.const (.bool true)) (.tmp 18), none⟩])
 (.cond (.tmp 19)
 (.seq (.ops [⟨some 4, .move (.const (.int .i64 0)), none⟩])
 (.ret))
 (.skip)))
 (.seq (.ops [⟨some 4, .move (.const (.int .i64 1)), none⟩])
 (.ret)))⟩
/-- hurdle/hurdlelaw28.ManagerBytes -/
def c_hurdlelaw28_ManagerBytes (F : Nat → FuncId) (Ty : Nat → TypeId) : IFunc := ⟨107, [.tmp 4],
 .seq (.ops [⟨some 2, .box (.tmp 0), none⟩,
 ⟨some 4, .move (.const (.bool false)), none⟩])
 (.seq (.seq (.ops [⟨some 21, .move (.tmp 1), none⟩,
 ⟨some 22, .strLen (.tmp 21), none⟩,
 ⟨some 23, .bin .gtr (.tmp 22) (.const (.int .i64 5000)), none⟩])
 (.cond (.tmp 23)
 (.seq (.ops [⟨some 24, .call (F 422) [], none⟩,
 ⟨some 4, .move (.tmp 24), none⟩])
 (.ret))
 (.skip)))
 (.seq (.ops [⟨some 26, .loadN 8 (.tmp 2), none⟩,
 ⟨some 27, .call (F 395) [.tmp 26], none⟩,
 ⟨some 25, .move (.tmp 27), none⟩,
 ⟨some 28, .extract (.tmp 25) 0, none⟩,
 ⟨some 29, .extract (.tmp 25) 1, none⟩,
 ⟨some 5, .move (.tmp 28), none⟩,
 ⟨some 6, .move (.tmp 29), none⟩])
 (.seq (.ops [⟨some 31, .loadN 8 (.tmp 2), none⟩,
 ⟨some 32, .call (F 415) [.tmp 31], none⟩,
 ⟨some 30, .move (.tmp 32), none⟩,
 ⟨some 33, .extract (.tmp 30) 0, none⟩,
 ⟨some 34, .extract (.tmp 30) 1, none⟩,
 ⟨some 7, .move (.tmp 33), none⟩,
 ⟨some 8, .move (.tmp 34), none⟩])
 (.seq (.ops [⟨some 36, .move (.tmp 1), none⟩,
 ⟨some 37, .call (F 396) [.tmp 36], none⟩,
 ⟨some 35, .move (.tmp 37), none⟩,
 ⟨some 38, .extract (.tmp 35) 0, none⟩,
 ⟨some 39, .extract (.tmp 35) 1, none⟩,
 ⟨some 9, .alloc [.int .i64 0, .int .i64 0, .int .i64 0, .int .i64 0, .int .i64 0, .int .i64 0, .int .i64 0, .int .i64 0], none⟩,
 ⟨none, .store 8 (.tmp 9) (.tmp 38), none⟩,
 ⟨some 10, .move (.tmp 39), none⟩])
 (.seq (.ops [⟨some 41, .move (.tmp 1), none⟩,
 ⟨some 42, .call (F 416) [.tmp 41], none⟩,
 ⟨some 40, .move (.tmp 42), none⟩,
 ⟨some 43, .extract (.tmp 40) 0, none⟩,
 ⟨some 44, .extract (.tmp 40) 1, none⟩,
 ⟨some 11, .alloc [.int .i64 0, .int .i64 0, .int .i64 0, .int .i64 0, .int .i64 0, .int .i64 0, .int .i64 0, .int .i64 0], none⟩,
 ⟨none, .store 8 (.tmp 11) (.tmp 43), none⟩,
 ⟨some 12, .move (.tmp 44), none⟩])
 (.seq (.ops [⟨some 46, .move (.tmp 1), none⟩,
 ⟨some 47, .call (F 398) [.tmp 46], none⟩,
 ⟨some 45, .move (.tmp 47), none⟩,
 ⟨some 48, .extract (.tmp 45) 0, none⟩,
 ⟨some 49, .extract (.tmp 45) 1, none⟩,
 ⟨some 50, .extract (.tmp 45) 2, none⟩,
 ⟨some 13, .move (.tmp 48), none⟩,
 ⟨some 14, .move (.tmp 49), none⟩,
 ⟨some 15, .move (.tmp 50), none⟩])
 (.seq (.ops [⟨some 52, .move (.tmp 1), none⟩,
 ⟨some 53, .call (F 417) [.tmp 52], none⟩,
 ⟨some 51, .move (.tmp 53), none⟩,
 ⟨some 54, .extract (.tmp 51) 0, none⟩,
 ⟨some 55, .extract (.tmp 51) 1, none⟩,
 ⟨some 56, .extract (.tmp 51) 2, none⟩,
 ⟨some 16, .move (.tmp 54), none⟩,
 ⟨some 17, .move (.tmp 55), none⟩,
 ⟨some 18, .move (.tmp 56), none⟩])
 (.seq (.seq (.ops [⟨some 57, .move (.tmp 6), none⟩,
 ⟨some 58, .bin .eql (.tmp 57) (.const (.int .i64 0)), none⟩])
 (.cond (.tmp 58)
 (.seq (.ops [⟨some 60, .move (.tmp 5), none⟩,
 ⟨some 61, .call (F 396) [.tmp 60], none⟩,
 ⟨some 59, .move (.tmp 61), none⟩,
 ⟨some 62, .extract (.tmp 59) 0, none⟩,
 ⟨some 63, .extract (.tmp 59) 1, none⟩,
 ⟨some 19, .alloc [.int .i64 0, .int .i64 0, .int .i64 0, .int .i64 0, .int .i64 0, .int .i64 0, .int .i64 0, .int .i64 0], none⟩,
 ⟨none, .store 8 (.tmp 19) (.tmp 62), none⟩,
 ⟨some 20, .move (.tmp 63), none⟩])
 (.seq (.ops [⟨some 64, .move (.tmp 20), none⟩,
 ⟨some 65, .bin .neq (.tmp 64) (.const (.int .i64 0)), none⟩,
 ⟨some 66, .move (.tmp 65), none⟩,
 ⟨some 67, .loadN 8 (.tmp 19), some (66, false)⟩,
 ⟨some 68, .loadN 8 (.tmp 2), some (66, false)⟩,
 ⟨some 69, .eqv true [.i .i64, .i .i64, .i .i64, .i .i64, .i .i64, .i .i64, .i .i64, .i .i64] (.tmp 67) (.tmp 68), some (66, false)⟩,
 ⟨some 70, .pick (.tmp 66) (.const (.bool true)) (.tmp 69), none⟩])
 (.cond (.tmp 70)
 (.seq (.ops [⟨some 4, .move (.const (.bool false)), none⟩])
 (.ret))
 (.skip))))
 (.skip)))
 (.seq (.ops [⟨some 71, .move (.tmp 5), none⟩,
 ⟨some 72, .move (.tmp 7), none⟩,
 ⟨some 73, .bin .eql (.tmp 71) (.tmp 72), none⟩,
 ⟨some 74, .move (.tmp 73), none⟩,
 ⟨some 75, .move (.tmp 6), some (74, true)⟩,
 ⟨some 76, .move (.tmp 8), some (74, true)⟩,
 ⟨some 77, .bin .eql (.tmp 75) (.tmp 76), some (74, true)⟩,
 ⟨some 78, .pick (.tmp 74) (.tmp 77) (.const (.bool false)), none⟩,
 ⟨some 79, .move (.tmp 78), none⟩,
 ⟨some 80, .loadN 8 (.tmp 9), some (79, true)⟩,
 ⟨some 81, .loadN 8 (.tmp 11), some (79, true)⟩,
 ⟨some 82, .eqv false [.i .i64, .i .i64, .i .i64, .i .i64, .i .i64, .i .i64, .i .i64, .i .i64] (.tmp 80) (.tmp 81), some (79, true)⟩,
 ⟨some 83, .pick (.tmp 79) (.tmp 82) (.const (.bool false)), none⟩,
 ⟨some 84, .move (.tmp 83), none⟩,
 ⟨some 85, .move (.tmp 10), some (84, true)⟩,
 ⟨some 86, .move (.tmp 12), some (84, true)⟩,
 ⟨some 87, .bin .eql (.tmp 85) (.tmp 86), some (84, true)⟩,
 ⟨some 88, .pick (.tmp 84) (.tmp 87) (.const (.bool false)), none⟩,
 ⟨some 89, .move (.tmp 88), none⟩,
 ⟨some 90, .move (.tmp 13), some (89, true)⟩,
 ⟨some 91, .move (.tmp 16), some (89, true)⟩,
 ⟨some 92, .bin .eql (.tmp 90) (.tmp 91), some (89, true)⟩,
 ⟨some 93, .pick (.tmp 89) (.tmp 92) (.const (.bool false)), none⟩,
 ⟨some 94, .move (.tmp 93), none⟩,
 ⟨some 95, .move (.tmp 14), some (94, true)⟩,
 ⟨some 96, .move (.tmp 17), some (94, true)⟩,
 ⟨some 97, .call (F 69) [.tmp 95, .tmp 96], some (94, true)⟩,
 ⟨some 98, .pick (.tmp 94) (.tmp 97) (.const (.bool false)), none⟩,
 ⟨some 99, .move (.tmp 98), none⟩,
 ⟨some 100, .move (.tmp 15), some (99, true)⟩,
 ⟨some 101, .move (.tmp 18), some (99, true)⟩,
 ⟨some 102, .bin .eql (.tmp 100) (.tmp 101), some (99, true)⟩,
 ⟨some 103, .pick (.tmp 99) (.tmp 102) (.const (.bool false)), none⟩,
 ⟨some 104, .move (.tmp 103), none⟩,
 ⟨some 105, .call (F 422) [], some (104, true)⟩,
 ⟨some 106, .pick (.tmp 104) (.tmp 105) (.const (.bool false)), none⟩,
 ⟨some 4, .move (.tmp 106), none⟩])
 (.ret))))))))))⟩
/-- hurdle/hurdlelaw28.ManagerAlike -/
def c_hurdlelaw28_ManagerAlike (F : Nat → FuncId) (Ty : Nat → TypeId) : IFunc := ⟨99, [.tmp 6],
 .seq (.ops [⟨some 3, .box (.tmp 0), none⟩,
 ⟨some 6, .move (.const (.bool false)), none⟩])
 (.seq (.seq (.ops [⟨some 11, .loadN 2 (.tmp 3), none⟩,
 ⟨some 12, .move (.tmp 1), none⟩,
 ⟨some 13, .call (F 423) [.tmp 11, .tmp 12], none⟩,
 ⟨some 14, .un .not (.tmp 13), none⟩])
 (.cond (.tmp 14)
 (.seq (.ops [⟨some 15, .call (F 422) [], none⟩,
 ⟨some 6, .move (.tmp 15), none⟩])
 (.ret))
 (.skip)))
 (.seq (.draw [(⟨some 16, .fieldAddr 0 (.tmp 3), none⟩, []),
 (⟨some 17, .load1 (.tmp 16), none⟩, []),
 (⟨some 18, .fieldAddr 1 (.tmp 3), none⟩, []),
 (⟨some 19, .load1 (.tmp 18), none⟩, []),
 (⟨some 21, .fieldAddr 0 (.tmp 3), none⟩, []),
 (⟨some 22, .load1 (.tmp 21), none⟩, []),
 (⟨some 23, .fieldAddr 1 (.tmp 3), none⟩, []),
 (⟨some 24, .load1 (.tmp 23), none⟩, []),
 (⟨some 20, .call (F 393) [.tmp 17, .tmp 19], none⟩, [⟨some 22, .load1 (.tmp 21), none⟩, ⟨some 24, .load1 (.tmp 23), none⟩]),
 (⟨some 25, .call (F 393) [.tmp 22, .tmp 24], none⟩, []),
 (⟨some 7, .move (.tmp 20), none⟩, []),
 (⟨some 8, .move (.tmp 25), none⟩, [])])
 (.seq (.seq (.ops [⟨some 26, .move (.tmp 7), none⟩,
 ⟨some 27, .eqNil 0 false (.tmp 26), none⟩,
 ⟨some 28, .move (.tmp 27), none⟩,
 ⟨some 29, .move (.tmp 8), some (28, false)⟩,
 ⟨some 30, .eqNil 0 false (.tmp 29), some (28, false)⟩,
 ⟨some 31, .pick (.tmp 28) (.const (.bool true)) (.tmp 30), none⟩])
 (.cond (.tmp 31)
 (.seq (.ops [⟨some 32, .move (.tmp 7), none⟩,
 ⟨some 33, .eqNil 0 false (.tmp 32), none⟩,
 ⟨some 34, .move (.tmp 33), none⟩,
 ⟨some 35, .move (.tmp 8), some (34, true)⟩,
 ⟨some 36, .eqNil 0 false (.tmp 35), some (34, true)⟩,
 ⟨some 37, .pick (.tmp 34) (.tmp 36) (.const (.bool false)), none⟩,
 ⟨some 38, .move (.tmp 37), none⟩,
 ⟨some 39, .call (F 422) [], some (38, true)⟩,
 ⟨some 40, .pick (.tmp 38) (.tmp 39) (.const (.bool false)), none⟩,
 ⟨some 6, .move (.tmp 40), none⟩])
 (.ret))
 (.skip)))
 (.seq (.seq (.ops [⟨some 9, .move (.const (.int .i64 0)), none⟩])
 (.block 0 (.loop (.seq (.seq (.ops [⟨some 41, .move (.tmp 9), none⟩,
 ⟨some 42, .move (.tmp 1), none⟩,
 ⟨some 43, .lenSl (.tmp 42), none⟩,
 ⟨some 44, .bin .lss (.tmp 41) (.tmp 43), none⟩])
 (.cond (.tmp 44)
 (.skip)
 (.exit 0)))
 (.seq (.block 1 (.seq (.ops [⟨some 47, .move (.tmp 7), none⟩,
 ⟨some 48, .move (.tmp 1), none⟩,
 ⟨some 49, .move (.tmp 9), none⟩,
 ⟨some 50, .idxSl 9 (.tmp 48) (.tmp 49), none⟩,
 ⟨some 51, .loadN 9 (.tmp 50), none⟩,
 ⟨some 52, .call (F 424) [.tmp 51], none⟩,
 ⟨some 53, .call (F 400) [.tmp 47, .tmp 52], none⟩,
 ⟨some 10, .move (.tmp 53), none⟩])
 (.seq (.seq (.ops [⟨some 54, .move (.tmp 8), none⟩,
 ⟨some 55, .move (.tmp 1), none⟩,
 ⟨some 56, .move (.tmp 9), none⟩,
 ⟨some 57, .idxSl 9 (.tmp 55) (.tmp 56), none⟩,
 ⟨some 58, .loadN 9 (.tmp 57), none⟩,
 ⟨some 59, .call (F 424) [.tmp 58], none⟩,
 ⟨some 60, .call (F 400) [.tmp 54, .tmp 59], none⟩,
 ⟨some 61, .move (.tmp 10), none⟩,
 ⟨some 62, .bin .neq (.tmp 60) (.tmp 61), none⟩])
 (.cond (.tmp 62)
 (.seq (.ops [⟨some 6, .move (.const (.bool false)), none⟩])
 (.ret))
 (.skip)))
 (.seq (.ops [⟨some 63, .move (.tmp 9), none⟩,
 ⟨some 64, .move (.tmp 2), none⟩,
 ⟨some 65, .bin .eql (.tmp 63) (.tmp 64), none⟩,
 ⟨some 66, .move (.tmp 65), none⟩,
 ⟨some 67, .move (.tmp 8), some (66, true)⟩,
 ⟨some 68, .move (.tmp 1), some (66, true)⟩,
 ⟨some 69, .move (.tmp 9), some (66, true)⟩,
 ⟨some 70, .idxSl 9 (.tmp 68) (.tmp 69), some (66, true)⟩,
 ⟨some 71, .loadN 9 (.tmp 70), some (66, true)⟩,
 ⟨some 72, .call (F 424) [.tmp 71], some (66, true)⟩,
 ⟨some 73, .call (F 400) [.tmp 67, .tmp 72], some (66, true)⟩,
 ⟨some 74, .move (.tmp 10), some (66, true)⟩,
 ⟨some 75, .bin .neq (.tmp 73) (.tmp 74), some (66, true)⟩,
 ⟨some 76, .pick (.tmp 66) (.tmp 75) (.const (.bool false)), none⟩])
 (.cond (.tmp 76)
 (.seq (.ops [⟨some 6, .move (.const (.bool false)), none⟩])
 (.ret))
 (.skip))))))
 (.ops [⟨some 45, .move (.tmp 9), none⟩,
 ⟨some 46, .bin .add (.tmp 45) (.const (.int .i64 1)), none⟩,
 ⟨some 9, .move (.tmp 46), none⟩]))))))
 (.seq (.ops [⟨some 77, .move (.tmp 7), none⟩,
 ⟨some 78, .call (F 405) [.tmp 77, .const (.int .i64 1)], none⟩,
 ⟨some 79, .move (.tmp 8), none⟩,
 ⟨some 80, .call (F 405) [.tmp 79, .const (.int .i64 1)], none⟩,
 ⟨some 81, .call (F 69) [.tmp 78, .tmp 80], none⟩,
 ⟨some 82, .move (.tmp 81), none⟩,
 ⟨some 83, .move (.tmp 7), some (82, true)⟩,
 ⟨some 84, .call (F 403) [.tmp 83], some (82, true)⟩,
 ⟨some 85, .move (.tmp 8), some (82, true)⟩,
 ⟨some 86, .call (F 403) [.tmp 85], some (82, true)⟩,
 ⟨some 87, .call (F 69) [.tmp 84, .tmp 86], some (82, true)⟩,
 ⟨some 88, .pick (.tmp 82) (.tmp 87) (.const (.bool false)), none⟩,
 ⟨some 89, .move (.tmp 88), none⟩,
 ⟨some 90, .move (.tmp 7), some (89, true)⟩,
 ⟨some 91, .call (F 404) [.tmp 90], some (89, true)⟩,
 ⟨some 92, .move (.tmp 8), some (89, true)⟩,
 ⟨some 93, .call (F 404) [.tmp 92], some (89, true)⟩,
 ⟨some 94, .bin .eql (.tmp 91) (.tmp 93), some (89, true)⟩,
 ⟨some 95, .pick (.tmp 89) (.tmp 94) (.const (.bool false)), none⟩,
 ⟨some 96, .move (.tmp 95), none⟩,
 ⟨some 97, .call (F 422) [], some (96, true)⟩,
 ⟨some 98, .pick (.tmp 96) (.tmp 97) (.const (.bool false)), none⟩,
 ⟨some 6, .move (.tmp 98), none⟩])
 (.ret))))))⟩
/-- hurdle/hurdlelaw28.ManagerFences -/
def c_hurdlelaw28_ManagerFences (F : Nat → FuncId) (Ty : Nat → TypeId) : IFunc := ⟨93, [.tmp 4],
 .seq (.ops [⟨some 2, .box (.tmp 0), none⟩,
 ⟨some 4, .move (.const (.bool false)), none⟩])
 (.seq (.seq (.ops [⟨some 15, .loadN 2 (.tmp 2), none⟩,
 ⟨some 16, .move (.tmp 1), none⟩,
 ⟨some 17, .call (F 423) [.tmp 15, .tmp 16], none⟩,
 ⟨some 18, .un .not (.tmp 17), none⟩])
 (.cond (.tmp 18)
 (.seq (.ops [⟨some 19, .call (F 422) [], none⟩,
 ⟨some 4, .move (.tmp 19), none⟩])
 (.ret))
 (.skip)))
 (.seq (.ops [⟨some 20, .fieldAddr 0 (.tmp 2), none⟩,
 ⟨some 21, .load1 (.tmp 20), none⟩,
 ⟨some 22, .fieldAddr 1 (.tmp 2), none⟩,
 ⟨some 23, .load1 (.tmp 22), none⟩,
 ⟨some 24, .call (F 393) [.tmp 21, .tmp 23], none⟩,
 ⟨some 5, .move (.tmp 24), none⟩])
 (.seq (.seq (.ops [⟨some 25, .move (.tmp 5), none⟩,
 ⟨some 26, .eqNil 0 false (.tmp 25), none⟩])
 (.cond (.tmp 26)
 (.seq (.ops [⟨some 27, .call (F 422) [], none⟩,
 ⟨some 4, .move (.tmp 27), none⟩])
 (.ret))
 (.skip)))
 (.seq (.seq (.ops [⟨some 6, .move (.const (.int .i64 0)), none⟩])
 (.block 0 (.loop (.seq (.seq (.ops [⟨some 28, .move (.tmp 6), none⟩,
 ⟨some 29, .move (.tmp 1), none⟩,
 ⟨some 30, .lenSl (.tmp 29), none⟩,
 ⟨some 31, .bin .lss (.tmp 28) (.tmp 30), none⟩])
 (.cond (.tmp 31)
 (.skip)
 (.exit 0)))
 (.seq (.block 1 (.seq (.ops [⟨some 34, .move (.tmp 5), none⟩,
 ⟨some 35, .call (F 405) [.tmp 34, .const (.int .i64 2)], none⟩,
 ⟨some 7, .move (.tmp 35), none⟩])
 (.seq (.ops [⟨some 36, .move (.tmp 5), none⟩,
 ⟨some 37, .call (F 404) [.tmp 36], none⟩,
 ⟨some 8, .move (.tmp 37), none⟩])
 (.seq (.ops [⟨some 38, .move (.tmp 5), none⟩,
 ⟨some 39, .move (.tmp 1), none⟩,
 ⟨some 40, .move (.tmp 6), none⟩,
 ⟨some 41, .idxSl 9 (.tmp 39) (.tmp 40), none⟩,
 ⟨some 42, .loadN 9 (.tmp 41), none⟩,
 ⟨some 43, .call (F 424) [.tmp 42], none⟩,
 ⟨some 44, .call (F 400) [.tmp 38, .tmp 43], none⟩])
 (.seq (.ops [⟨some 45, .move (.tmp 5), none⟩,
 ⟨some 46, .call (F 405) [.tmp 45, .const (.int .i64 2)], none⟩,
 ⟨some 9, .move (.tmp 46), none⟩])
 (.seq (.ops [⟨some 10, .move (.const (.int .i64 0)), none⟩])
 (.block 2 (.loop (.seq (.seq (.ops [⟨some 47, .move (.tmp 10), none⟩,
 ⟨some 48, .move (.tmp 9), none⟩,
 ⟨some 49, .lenSl (.tmp 48), none⟩,
 ⟨some 50, .bin .lss (.tmp 47) (.tmp 49), none⟩])
 (.cond (.tmp 50)
 (.skip)
 (.exit 2)))
 (.seq (.block 3 (.seq (.ops [⟨some 11, .move (.const (.bool false)), none⟩])
 (.seq (.seq (.ops [⟨some 12, .move (.const (.int .i64 0)), none⟩])
 (.block 4 (.loop (.seq (.seq (.ops [⟨some 53, .move (.tmp 12), none⟩,
 ⟨some 54, .move (.tmp 7), none⟩,
 ⟨some 55, .lenSl (.tmp 54), none⟩,
 ⟨some 56, .bin .lss (.tmp 53) (.tmp 55), none⟩])
 (.cond (.tmp 56)
 (.skip)
 (.exit 4)))
 (.seq (.block 5 (.draw [(⟨some 59, .move (.tmp 11), none⟩, []),
 (⟨some 60, .move (.tmp 59), none⟩, []),
 (⟨some 61, .move (.tmp 7), some (60, false)⟩, []),
 (⟨some 62, .move (.tmp 12), some (60, false)⟩, []),
 (⟨some 63, .idxSl 1 (.tmp 61) (.tmp 62), some (60, false)⟩, []),
 (⟨some 64, .load1 (.tmp 63), some (60, false)⟩, []),
 (⟨some 65, .move (.tmp 9), some (60, false)⟩, []),
 (⟨some 66, .move (.tmp 10), some (60, false)⟩, []),
 (⟨some 67, .idxSl 1 (.tmp 65) (.tmp 66), some (60, false)⟩, []),
 (⟨some 68, .load1 (.tmp 67), some (60, false)⟩, []),
 (⟨some 69, .bin .eql (.tmp 64) (.tmp 68), some (60, false)⟩, []),
 (⟨some 70, .pick (.tmp 60) (.const (.bool true)) (.tmp 69), none⟩, []),
 (⟨some 11, .move (.tmp 70), none⟩, [])]))
 (.ops [⟨some 57, .move (.tmp 12), none⟩,
 ⟨some 58, .bin .add (.tmp 57) (.const (.int .i64 1)), none⟩,
 ⟨some 12, .move (.tmp 58), none⟩]))))))
 (.seq (.ops [⟨some 72, .move (.tmp 5), none⟩,
 ⟨some 73, .move (.tmp 9), none⟩,
 ⟨some 74, .move (.tmp 10), none⟩,
 ⟨some 75, .idxSl 1 (.tmp 73) (.tmp 74), none⟩,
 ⟨some 76, .load1 (.tmp 75), none⟩,
 ⟨some 77, .call (F 401) [.tmp 72, .tmp 76], none⟩,
 ⟨some 71, .move (.tmp 77), none⟩,
 ⟨some 78, .extract (.tmp 71) 0, none⟩,
 ⟨some 79, .extract (.tmp 71) 1, none⟩,
 ⟨some 13, .alloc [.int .i64 0, .int .i64 0, .int .i64 0, .int .i64 0, .int .i64 0, .slice none 0 0], none⟩,
 ⟨none, .store 6 (.tmp 13) (.tmp 78), none⟩,
 ⟨some 14, .move (.tmp 79), none⟩])
 (.seq (.ops [⟨some 80, .move (.tmp 14), none⟩,
 ⟨some 81, .un .not (.tmp 80), none⟩,
 ⟨some 82, .move (.tmp 81), none⟩,
 ⟨some 83, .move (.tmp 11), some (82, false)⟩,
 ⟨some 84, .un .not (.tmp 83), some (82, false)⟩,
 ⟨some 85, .move (.tmp 84), some (82, false)⟩,
 ⟨some 86, .fieldAddr 3 (.tmp 13), some (85, true)⟩,
 ⟨some 87, .load1 (.tmp 86), some (85, true)⟩,
 ⟨some 88, .move (.tmp 8), some (85, true)⟩,
 ⟨some 89, .bin .neq (.tmp 87) (.tmp 88), some (85, true)⟩,
 ⟨some 90, .pick (.tmp 85) (.tmp 89) (.const (.bool false)), some (82, false)⟩,
 ⟨some 91, .pick (.tmp 82) (.const (.bool true)) (.tmp 90), none⟩])
 (.cond (.tmp 91)
 (.seq (.ops [⟨some 4, .move (.const (.bool false)), none⟩])
 (.ret))
 (.skip)))))))
 (.ops [⟨some 51, .move (.tmp 10), none⟩,
 ⟨some 52, .bin .add (.tmp 51) (.const (.int .i64 1)), none⟩,
 ⟨some 10, .move (.tmp 52), none⟩])))))))))))
 (.ops [⟨some 32, .move (.tmp 6), none⟩,
 ⟨some 33, .bin .add (.tmp 32) (.const (.int .i64 1)), none⟩,
 ⟨some 6, .move (.tmp 33), none⟩]))))))
 (.seq (.ops [⟨some 92, .call (F 422) [], none⟩,
 ⟨some 4, .move (.tmp 92), none⟩])
 (.ret))))))⟩
/-- hurdle/hurdlelaw28.ManagerNone -/
def c_hurdlelaw28_ManagerNone (F : Nat → FuncId) (Ty : Nat → TypeId) : IFunc := ⟨87, [.tmp 4],
 .seq (.ops [⟨some 4, .move (.const (.bool false)), none⟩])
 (.seq (.seq (.ops [⟨some 13, .move (.tmp 0), none⟩,
 ⟨some 14, .strLen (.tmp 13), none⟩,
 ⟨some 15, .bin .gtr (.tmp 14) (.const (.int .i64 5000)), none⟩])
 (.cond (.tmp 15)
 (.seq (.ops [⟨some 16, .call (F 422) [], none⟩,
 ⟨some 4, .move (.tmp 16), none⟩])
 (.ret))
 (.skip)))
 (.seq (.ops [⟨some 5, .move (.const (.pointer none)), none⟩])
 (.seq (.ops [⟨some 18, .move (.tmp 5), none⟩,
 ⟨some 19, .move (.tmp 0), none⟩,
 ⟨some 20, .call (F 400) [.tmp 18, .tmp 19], none⟩,
 ⟨some 21, .call (F 398) [.tmp 20], none⟩,
 ⟨some 17, .move (.tmp 21), none⟩,
 ⟨some 22, .extract (.tmp 17) 0, none⟩,
 ⟨some 23, .extract (.tmp 17) 1, none⟩,
 ⟨some 24, .extract (.tmp 17) 2, none⟩,
 ⟨some 6, .move (.tmp 22), none⟩,
 ⟨some 7, .move (.tmp 23), none⟩,
 ⟨some 8, .move (.tmp 24), none⟩])
 (.seq (.ops [⟨some 26, .move (.tmp 5), none⟩,
 ⟨some 27, .move (.tmp 1), none⟩,
 ⟨some 28, .call (F 401) [.tmp 26, .tmp 27], none⟩,
 ⟨some 25, .move (.tmp 28), none⟩,
 ⟨some 29, .extract (.tmp 25) 0, none⟩,
 ⟨some 30, .extract (.tmp 25) 1, none⟩,
 ⟨some 9, .alloc [.int .i64 0, .int .i64 0, .int .i64 0, .int .i64 0, .int .i64 0, .slice none 0 0], none⟩,
 ⟨none, .store 6 (.tmp 9) (.tmp 29), none⟩,
 ⟨some 10, .move (.tmp 30), none⟩])
 (.seq (.ops [⟨some 32, .move (.tmp 5), none⟩,
 ⟨some 33, .move (.tmp 1), none⟩,
 ⟨some 34, .call (F 402) [.tmp 32, .tmp 33], none⟩,
 ⟨some 31, .move (.tmp 34), none⟩,
 ⟨some 35, .extract (.tmp 31) 0, none⟩,
 ⟨some 36, .extract (.tmp 31) 1, none⟩,
 ⟨some 11, .alloc [.int .i64 0, .int .i64 0, .int .i64 0, .int .i64 0], none⟩,
 ⟨none, .store 4 (.tmp 11) (.tmp 35), none⟩,
 ⟨some 12, .move (.tmp 36), none⟩])
 (.seq (.ops [⟨some 37, .move (.tmp 6), none⟩,
 ⟨some 38, .bin .eql (.tmp 37) (.const (.int .i64 1)), none⟩,
 ⟨some 39, .move (.tmp 38), none⟩,
 ⟨some 40, .move (.tmp 7), some (39, true)⟩,
 ⟨some 41, .lenSl (.tmp 40), some (39, true)⟩,
 ⟨some 42, .bin .eql (.tmp 41) (.const (.int .i64 0)), some (39, true)⟩,
 ⟨some 43, .pick (.tmp 39) (.tmp 42) (.const (.bool false)), none⟩,
 ⟨some 44, .move (.tmp 43), none⟩,
 ⟨some 45, .move (.tmp 8), some (44, true)⟩,
 ⟨some 46, .bin .eql (.tmp 45) (.const (.int .i64 0)), some (44, true)⟩,
 ⟨some 47, .pick (.tmp 44) (.tmp 46) (.const (.bool false)), none⟩,
 ⟨some 48, .move (.tmp 47), none⟩,
 ⟨some 49, .loadN 6 (.tmp 9), some (48, true)⟩,
 ⟨some 50, .build [.int .i64 0, .int .i64 0, .int .i64 0, .int .i64 0, .int .i64 0, .slice none 0 0] [], some (48, true)⟩,
 ⟨some 51, .call (F 167) [.tmp 49, .tmp 50], some (48, true)⟩,
 ⟨some 52, .pick (.tmp 48) (.tmp 51) (.const (.bool false)), none⟩,
 ⟨some 53, .move (.tmp 52), none⟩,
 ⟨some 54, .move (.tmp 10), some (53, true)⟩,
 ⟨some 55, .un .not (.tmp 54), some (53, true)⟩,
 ⟨some 56, .pick (.tmp 53) (.tmp 55) (.const (.bool false)), none⟩,
 ⟨some 57, .move (.tmp 56), none⟩,
 ⟨some 58, .loadN 4 (.tmp 11), some (57, true)⟩,
 ⟨some 59, .build [.int .i64 0, .int .i64 0, .int .i64 0, .int .i64 0] [], some (57, true)⟩,
 ⟨some 60, .eqv false [.i .i64, .i .i64, .i .i64, .i .i64] (.tmp 58) (.tmp 59), some (57, true)⟩,
 ⟨some 61, .pick (.tmp 57) (.tmp 60) (.const (.bool false)), none⟩,
 ⟨some 62, .move (.tmp 61), none⟩,
 ⟨some 63, .move (.tmp 12), some (62, true)⟩,
 ⟨some 64, .un .not (.tmp 63), some (62, true)⟩,
 ⟨some 65, .pick (.tmp 62) (.tmp 64) (.const (.bool false)), none⟩,
 ⟨some 66, .move (.tmp 65), none⟩,
 ⟨some 67, .move (.tmp 5), some (66, true)⟩,
 ⟨some 68, .call (F 403) [.tmp 67], some (66, true)⟩,
 ⟨some 69, .lenSl (.tmp 68), some (66, true)⟩,
 ⟨some 70, .bin .eql (.tmp 69) (.const (.int .i64 0)), some (66, true)⟩,
 ⟨some 71, .pick (.tmp 66) (.tmp 70) (.const (.bool false)), none⟩,
 ⟨some 72, .move (.tmp 71), none⟩,
 ⟨some 73, .move (.tmp 5), some (72, true)⟩,
 ⟨some 74, .call (F 404) [.tmp 73], some (72, true)⟩,
 ⟨some 75, .bin .eql (.tmp 74) (.const (.int .i64 0)), some (72, true)⟩,
 ⟨some 76, .pick (.tmp 72) (.tmp 75) (.const (.bool false)), none⟩,
 ⟨some 77, .move (.tmp 76), none⟩,
 ⟨some 78, .move (.tmp 5), some (77, true)⟩,
 ⟨some 79, .move (.tmp 1), some (77, true)⟩,
 ⟨some 80, .call (F 405) [.tmp 78, .tmp 79], some (77, true)⟩,
 ⟨some 81, .lenSl (.tmp 80), some (77, true)⟩,
 ⟨some 82, .bin .eql (.tmp 81) (.const (.int .i64 0)), some (77, true)⟩,
 ⟨some 83, .pick (.tmp 77) (.tmp 82) (.const (.bool false)), none⟩,
 ⟨some 84, .move (.tmp 83), none⟩,
 ⟨some 85, .call (F 422) [], some (84, true)⟩,
 ⟨some 86, .pick (.tmp 84) (.tmp 85) (.const (.bool false)), none⟩,
 ⟨some 4, .move (.tmp 86), none⟩])
 (.ret)))))))⟩
/-- hurdle/hurdlelaw28.awake -/
def c_hurdlelaw28_awake (F : Nat → FuncId) (Ty : Nat → TypeId) : IFunc := ⟨125, [.tmp 0],
 .seq (.ops [⟨some 0, .move (.const (.bool false)), none⟩])
 (.seq (.ops [⟨some 19, .buildSlice 3 [.int .i64 0, .int .i64 0, .int .i64 0] [((0, 1), .const (.int .i64 1)), ((1, 1), .const (.int .i64 2)), ((2, 1), .const (.int .i64 3))], none⟩,
 ⟨some 20, .buildSlice 1 [.int .i64 0] [((0, 1), .const (.int .i64 9))], none⟩,
 ⟨some 21, .call (F 393) [.tmp 19, .tmp 20], none⟩,
 ⟨some 1, .move (.tmp 21), none⟩])
 (.seq (.seq (.ops [⟨some 22, .move (.tmp 1), none⟩,
 ⟨some 23, .eqNil 0 false (.tmp 22), none⟩,
 ⟨some 24, .move (.tmp 23), none⟩,
 ⟨some 25, .call (F 393) [.const (.slice none 0 0), .const (.slice none 0 0)], some (24, false)⟩,
 ⟨some 26, .eqNil 0 true (.tmp 25), some (24, false)⟩,
 ⟨some 27, .pick (.tmp 24) (.const (.bool true)) (.tmp 26), none⟩])
 (.cond (.tmp 27)
 (.seq (.ops [⟨some 0, .move (.const (.bool false)), none⟩])
 (.ret))
 (.skip)))
 (.seq (.ops [⟨some 28, .build [.int .i64 0, .int .i64 0, .int .i64 0, .int .i64 0, .int .i64 0, .int .i64 0, .int .i64 0, .int .i64 0] [((0, 1), .const (.int .i64 1)), ((1, 1), .const (.int .i64 5)), ((2, 1), .const (.int .i64 1)), ((3, 1), .const (.int .i64 100))], none⟩,
 ⟨some 2, .alloc [.int .i64 0, .int .i64 0, .int .i64 0, .int .i64 0, .int .i64 0, .int .i64 0, .int .i64 0, .int .i64 0], none⟩,
 ⟨none, .store 8 (.tmp 2) (.tmp 28), none⟩])
 (.seq (.ops [⟨some 29, .move (.tmp 1), none⟩,
 ⟨some 30, .loadN 8 (.tmp 2), none⟩,
 ⟨some 31, .call (F 425) [.tmp 30], none⟩,
 ⟨some 32, .call (F 400) [.tmp 29, .tmp 31], none⟩,
 ⟨some 3, .move (.tmp 32), none⟩])
 (.seq (.ops [⟨some 33, .move (.tmp 1), none⟩,
 ⟨some 34, .loadN 8 (.tmp 2), none⟩,
 ⟨some 35, .call (F 425) [.tmp 34], none⟩,
 ⟨some 36, .call (F 400) [.tmp 33, .tmp 35], none⟩,
 ⟨some 4, .move (.tmp 36), none⟩])
 (.seq (.ops [⟨some 38, .move (.tmp 3), none⟩,
 ⟨some 39, .call (F 398) [.tmp 38], none⟩,
 ⟨some 37, .move (.tmp 39), none⟩,
 ⟨some 40, .extract (.tmp 37) 0, none⟩,
 ⟨some 41, .extract (.tmp 37) 1, none⟩,
 ⟨some 42, .extract (.tmp 37) 2, none⟩,
 ⟨some 5, .move (.tmp 40), none⟩,
 ⟨some 6, .move (.tmp 41), none⟩,
 ⟨some 7, .move (.tmp 42), none⟩])
 (.seq (.ops [⟨some 44, .move (.tmp 1), none⟩,
 ⟨some 45, .build [.int .i64 0, .int .i64 0, .int .i64 0, .int .i64 0, .int .i64 0, .int .i64 0, .int .i64 0, .int .i64 0] [((0, 1), .const (.int .i64 1)), ((1, 1), .const (.int .i64 6)), ((2, 1), .const (.int .i64 2))], none⟩,
 ⟨some 46, .call (F 425) [.tmp 45], none⟩,
 ⟨some 47, .call (F 400) [.tmp 44, .tmp 46], none⟩,
 ⟨some 48, .call (F 398) [.tmp 47], none⟩,
 ⟨some 43, .move (.tmp 48), none⟩,
 ⟨some 49, .extract (.tmp 43) 0, none⟩,
 ⟨some 50, .extract (.tmp 43) 1, none⟩,
 ⟨some 51, .extract (.tmp 43) 2, none⟩,
 ⟨some 8, .move (.tmp 49), none⟩,
 ⟨some 9, .move (.tmp 50), none⟩,
 ⟨some 10, .move (.tmp 51), none⟩])
 (.seq (.ops [⟨some 53, .move (.tmp 1), none⟩,
 ⟨some 54, .build [.int .i64 0, .int .i64 0, .int .i64 0, .int .i64 0, .int .i64 0, .int .i64 0, .int .i64 0, .int .i64 0] [((0, 1), .const (.int .i64 1)), ((1, 1), .const (.int .i64 7)), ((2, 1), .const (.int .i64 4)), ((3, 1), .const (.int .i64 4)), ((7, 1), .const (.int .i64 20))], none⟩,
 ⟨some 55, .call (F 425) [.tmp 54], none⟩,
 ⟨some 56, .call (F 400) [.tmp 53, .tmp 55], none⟩,
 ⟨some 57, .call (F 398) [.tmp 56], none⟩,
 ⟨some 52, .move (.tmp 57), none⟩,
 ⟨some 58, .extract (.tmp 52) 0, none⟩,
 ⟨some 59, .extract (.tmp 52) 1, none⟩,
 ⟨some 60, .extract (.tmp 52) 2, none⟩,
 ⟨some 11, .move (.tmp 58), none⟩,
 ⟨some 12, .move (.tmp 59), none⟩,
 ⟨some 13, .move (.tmp 60), none⟩])
 (.seq (.ops [⟨some 62, .move (.tmp 1), none⟩,
 ⟨some 63, .call (F 400) [.tmp 62, .const (.string ⟨#[120]⟩)], none⟩,
 ⟨some 64, .call (F 398) [.tmp 63], none⟩,
 ⟨some 61, .move (.tmp 64), none⟩,
 ⟨some 65, .extract (.tmp 61) 0, none⟩,
 ⟨some 66, .extract (.tmp 61) 1, none⟩,
 ⟨some 67, .extract (.tmp 61) 2, none⟩,
 ⟨some 14, .move (.tmp 65), none⟩,
 ⟨some 15, .move (.tmp 66), none⟩,
 ⟨some 16, .move (.tmp 67), none⟩])
 (.seq (.ops [⟨some 69, .move (.tmp 1), none⟩,
 ⟨some 70, .call (F 402) [.tmp 69, .const (.int .i64 4)], none⟩,
 ⟨some 68, .move (.tmp 70), none⟩,
 ⟨some 71, .extract (.tmp 68) 0, none⟩,
 ⟨some 72, .extract (.tmp 68) 1, none⟩,
 ⟨some 17, .alloc [.int .i64 0, .int .i64 0, .int .i64 0, .int .i64 0], none⟩,
 ⟨none, .store 4 (.tmp 17) (.tmp 71), none⟩,
 ⟨some 18, .move (.tmp 72), none⟩])
 (.seq (.ops [⟨some 73, .move (.tmp 3), none⟩,
 ⟨some 74, .move (.tmp 4), none⟩,
 ⟨some 75, .bin .eql (.tmp 73) (.tmp 74), none⟩,
 ⟨some 76, .move (.tmp 75), none⟩,
 ⟨some 77, .move (.tmp 5), some (76, true)⟩,
 ⟨some 78, .bin .eql (.tmp 77) (.const (.int .i64 0)), some (76, true)⟩,
 ⟨some 79, .pick (.tmp 76) (.tmp 78) (.const (.bool false)), none⟩,
 ⟨some 80, .move (.tmp 79), none⟩,
 ⟨some 81, .move (.tmp 6), some (80, true)⟩,
 ⟨some 82, .buildSlice 2 [.int .i64 0, .int .i64 0] [((0, 1), .const (.int .i64 0)), ((1, 1), .const (.int .i64 1))], some (80, true)⟩,
 ⟨some 83, .call (F 69) [.tmp 81, .tmp 82], some (80, true)⟩,
 ⟨some 84, .pick (.tmp 80) (.tmp 83) (.const (.bool false)), none⟩,
 ⟨some 85, .move (.tmp 84), none⟩,
 ⟨some 86, .move (.tmp 7), some (85, true)⟩,
 ⟨some 87, .bin .eql (.tmp 86) (.const (.int .i64 0)), some (85, true)⟩,
 ⟨some 88, .pick (.tmp 85) (.tmp 87) (.const (.bool false)), none⟩,
 ⟨some 89, .move (.tmp 88), none⟩,
 ⟨some 90, .move (.tmp 8), some (89, true)⟩,
 ⟨some 91, .bin .eql (.tmp 90) (.const (.int .i64 0)), some (89, true)⟩,
 ⟨some 92, .pick (.tmp 89) (.tmp 91) (.const (.bool false)), none⟩,
 ⟨some 93, .move (.tmp 92), none⟩,
 ⟨some 94, .move (.tmp 11), some (93, true)⟩,
 ⟨some 95, .bin .eql (.tmp 94) (.const (.int .i64 0)), some (93, true)⟩,
 ⟨some 96, .pick (.tmp 93) (.tmp 95) (.const (.bool false)), none⟩,
 ⟨some 97, .move (.tmp 96), none⟩,
 ⟨some 98, .move (.tmp 12), some (97, true)⟩,
 ⟨some 99, .buildSlice 1 [.int .i64 0] [((0, 1), .const (.int .i64 1))], some (97, true)⟩,
 ⟨some 100, .call (F 69) [.tmp 98, .tmp 99], some (97, true)⟩,
 ⟨some 101, .pick (.tmp 97) (.tmp 100) (.const (.bool false)), none⟩,
 ⟨some 102, .move (.tmp 101), none⟩,
 ⟨some 103, .move (.tmp 14), some (102, true)⟩,
 ⟨some 104, .bin .eql (.tmp 103) (.const (.int .i64 3)), some (102, true)⟩,
 ⟨some 105, .pick (.tmp 102) (.tmp 104) (.const (.bool false)), none⟩,
 ⟨some 106, .move (.tmp 105), none⟩,
 ⟨some 107, .fieldAddr 2 (.tmp 17), some (106, true)⟩,
 ⟨some 108, .load1 (.tmp 107), some (106, true)⟩,
 ⟨some 109, .bin .eql (.tmp 108) (.const (.int .i64 20)), some (106, true)⟩,
 ⟨some 110, .pick (.tmp 106) (.tmp 109) (.const (.bool false)), none⟩,
 ⟨some 111, .move (.tmp 110), none⟩,
 ⟨some 112, .move (.tmp 18), some (111, true)⟩,
 ⟨some 113, .pick (.tmp 111) (.tmp 112) (.const (.bool false)), none⟩,
 ⟨some 114, .move (.tmp 113), none⟩,
 ⟨some 115, .move (.tmp 1), some (114, true)⟩,
 ⟨some 116, .call (F 405) [.tmp 115, .const (.int .i64 2)], some (114, true)⟩,
 ⟨some 117, .buildSlice 1 [.int .i64 0] [((0, 1), .const (.int .i64 0))], some (114, true)⟩,
 ⟨some 118, .call (F 69) [.tmp 116, .tmp 117], some (114, true)⟩,
 ⟨some 119, .pick (.tmp 114) (.tmp 118) (.const (.bool false)), none⟩,
 ⟨some 120, .move (.tmp 119), none⟩,
 ⟨some 121, .move (.tmp 1), some (120, true)⟩,
 ⟨some 122, .call (F 404) [.tmp 121], some (120, true)⟩,
 ⟨some 123, .bin .eql (.tmp 122) (.const (.int .i64 1)), some (120, true)⟩,
 ⟨some 124, .pick (.tmp 120) (.tmp 123) (.const (.bool false)), none⟩,
 ⟨some 0, .move (.tmp 124), none⟩])
 (.ret))))))))))))⟩
/-- hurdle/hurdlelaw28.few -/
def c_hurdlelaw28_few (F : Nat → FuncId) (Ty : Nat → TypeId) : IFunc := ⟨27, [.tmp 4],
 .seq (.ops [⟨some 2, .box (.tmp 0), none⟩,
 ⟨some 4, .move (.const (.bool false)), none⟩])
 (.seq (.seq (.ops [⟨some 6, .loadN 2 (.tmp 2), none⟩,
 ⟨some 7, .call (F 129) [.tmp 6, .const (.slice none 0 0)], none⟩,
 ⟨some 8, .bin .eql (.tmp 7) (.const (.int .i64 0)), none⟩,
 ⟨some 9, .move (.tmp 8), none⟩,
 ⟨some 10, .move (.tmp 1), some (9, false)⟩,
 ⟨some 11, .lenSl (.tmp 10), some (9, false)⟩,
 ⟨some 12, .bin .gtr (.tmp 11) (.const (.int .i64 50)), some (9, false)⟩,
 ⟨some 13, .pick (.tmp 9) (.const (.bool true)) (.tmp 12), none⟩])
 (.cond (.tmp 13)
 (.seq (.ops [⟨some 4, .move (.const (.bool false)), none⟩])
 (.ret))
 (.skip)))
 (.seq (.seq (.ops [⟨some 5, .move (.const (.int .i64 0)), none⟩])
 (.block 0 (.loop (.seq (.seq (.ops [⟨some 14, .move (.tmp 5), none⟩,
 ⟨some 15, .move (.tmp 1), none⟩,
 ⟨some 16, .lenSl (.tmp 15), none⟩,
 ⟨some 17, .bin .lss (.tmp 14) (.tmp 16), none⟩])
 (.cond (.tmp 17)
 (.skip)
 (.exit 0)))
 (.seq (.block 1 (.seq (.ops [⟨some 20, .move (.tmp 1), none⟩,
 ⟨some 21, .move (.tmp 5), none⟩,
 ⟨some 22, .idxSl 9 (.tmp 20) (.tmp 21), none⟩,
 ⟨some 23, .fieldAddr 8 (.tmp 22), none⟩,
 ⟨some 24, .load1 (.tmp 23), none⟩,
 ⟨some 25, .strLen (.tmp 24), none⟩,
 ⟨some 26, .bin .gtr (.tmp 25) (.const (.int .i64 1000)), none⟩])
 (.cond (.tmp 26)
 (.seq (.ops [⟨some 4, .move (.const (.bool false)), none⟩])
 (.ret))
 (.skip))))
 (.ops [⟨some 18, .move (.tmp 5), none⟩,
 ⟨some 19, .bin .add (.tmp 18) (.const (.int .i64 1)), none⟩,
 ⟨some 5, .move (.tmp 19), none⟩]))))))
 (.seq (.ops [⟨some 4, .move (.const (.bool true)), none⟩])
 (.ret))))⟩
/-- hurdle/hurdlelaw28.bytes -/
def c_hurdlelaw28_bytes (F : Nat → FuncId) (Ty : Nat → TypeId) : IFunc := ⟨16, [.tmp 2],
 .seq (.ops [⟨some 1, .box (.tmp 0), none⟩,
 ⟨some 2, .move (.const (.string ⟨#[]⟩)), none⟩])
 (.seq (.seq (.ops [⟨some 6, .fieldAddr 0 (.tmp 1), none⟩,
 ⟨some 7, .loadN 8 (.tmp 6), none⟩,
 ⟨some 8, .call (F 415) [.tmp 7], none⟩,
 ⟨some 5, .move (.tmp 8), none⟩,
 ⟨some 9, .extract (.tmp 5) 0, none⟩,
 ⟨some 10, .extract (.tmp 5) 1, none⟩,
 ⟨some 3, .move (.tmp 9), none⟩,
 ⟨some 4, .move (.tmp 10), none⟩])
 (.seq (.ops [⟨some 11, .move (.tmp 4), none⟩,
 ⟨some 12, .bin .eql (.tmp 11) (.const (.int .i64 0)), none⟩])
 (.cond (.tmp 12)
 (.seq (.ops [⟨some 13, .move (.tmp 3), none⟩,
 ⟨some 2, .move (.tmp 13), none⟩])
 (.ret))
 (.skip))))
 (.seq (.ops [⟨some 14, .fieldAddr 8 (.tmp 1), none⟩,
 ⟨some 15, .load1 (.tmp 14), none⟩,
 ⟨some 2, .move (.tmp 15), none⟩])
 (.ret)))⟩
/-- hurdle/hurdlelaw28.text -/
def c_hurdlelaw28_text (F : Nat → FuncId) (Ty : Nat → TypeId) : IFunc := ⟨11, [.tmp 2],
 .seq (.ops [⟨some 1, .box (.tmp 0), none⟩,
 ⟨some 2, .move (.const (.string ⟨#[]⟩)), none⟩])
 (.seq (.ops [⟨some 6, .loadN 8 (.tmp 1), none⟩,
 ⟨some 7, .call (F 395) [.tmp 6], none⟩,
 ⟨some 5, .move (.tmp 7), none⟩,
 ⟨some 8, .extract (.tmp 5) 0, none⟩,
 ⟨some 9, .extract (.tmp 5) 1, none⟩,
 ⟨some 3, .move (.tmp 8), none⟩,
 ⟨some 4, .move (.tmp 9), none⟩])
 (.seq (.ops [⟨some 10, .move (.tmp 3), none⟩,
 ⟨some 2, .move (.tmp 10), none⟩])
 (.ret)))⟩
/-- A context has these functions. -/
structure HasLaw28 (c : Ctx) : Prop where
 hurdleref28_Encode : c.IP (c.F 415) = some (c_hurdleref28_Encode c.F c.Ty)
 hurdleref28_Decode : c.IP (c.F 416) = some (c_hurdleref28_Decode c.F c.Ty)
 hurdleref28_Answer : c.IP (c.F 417) = some (c_hurdleref28_Answer c.F c.Ty)
 hurdleref24_Same : c.IP (c.F 167) = some (c_hurdleref24_Same c.F c.Ty)
 hurdlelaw23_Few : c.IP (c.F 129) = some (c_hurdlelaw23_Few c.F c.Ty)
 hurdlelaw28_ManagerBytes : c.IP (c.F 418) = some (c_hurdlelaw28_ManagerBytes c.F c.Ty)
 hurdlelaw28_ManagerAlike : c.IP (c.F 419) = some (c_hurdlelaw28_ManagerAlike c.F c.Ty)
 hurdlelaw28_ManagerFences : c.IP (c.F 420) = some (c_hurdlelaw28_ManagerFences c.F c.Ty)
 hurdlelaw28_ManagerNone : c.IP (c.F 421) = some (c_hurdlelaw28_ManagerNone c.F c.Ty)
 hurdlelaw28_awake : c.IP (c.F 422) = some (c_hurdlelaw28_awake c.F c.Ty)
 hurdlelaw28_few : c.IP (c.F 423) = some (c_hurdlelaw28_few c.F c.Ty)
 hurdlelaw28_bytes : c.IP (c.F 424) = some (c_hurdlelaw28_bytes c.F c.Ty)
 hurdlelaw28_text : c.IP (c.F 425) = some (c_hurdlelaw28_text c.F c.Ty)

end Go.Proofs.YtndndcdblfejnaaGreatRI
namespace Go.Proofs.YtndndcdblfejnaaGreatRI
set_option linter.unusedSimpArgs false
set_option linter.unusedVariables false
open Go

/-! ### where inodes stand -/
structure SpotD where
  seg : Int
  fr : Int
  le : Int
  ver : Int
  deriving DecidableEq
def spot0 : SpotD := ⟨0, 0, 0, 0⟩
def spotL (x : SpotD) : List Value := [.int .i64 x.seg, .int .i64 x.fr, .int .i64 x.le, .int .i64 x.ver]
def spotV (x : SpotD) : Value := .agg #[.int .i64 x.seg, .int .i64 x.fr, .int .i64 x.le, .int .i64 x.ver]
def mayIn (i : Int) : Bool := decide (1 ≤ i) && decide (i < 256)
def maySp (x : SpotD) : Bool := decide (0 ≤ x.seg) && (decide (x.seg < 4096) && (decide (0 ≤ x.fr) && (decide (x.fr ≤ 65536) && (decide (0 ≤ x.le) && decide (x.le ≤ 65536)))))
abbrev Im := Int → SpotD
def imMove (I : Im) (i v : Int) (to : SpotD) : Im × Int × Int :=
  if mayIn i = false ∨ maySp to = false then (I, 0, 1) else if (I i).ver ≠ v then (I, 0, 10) else (fun k => if k = i then { to with ver := v + 1 } else I k, v + 1, 0)
def imGet (I : Im) (i : Int) : SpotD × Bool := if mayIn i = false ∨ (I i).ver = 0 then (spot0, false) else (I i, true)

/-! ### who may write -/
structure LeaseD where
  ino : Int
  cl : Int
  un : Int
  tk : Int
  deriving DecidableEq
def lease0 : LeaseD := ⟨0, 0, 0, 0⟩
def leaseV (x : LeaseD) : Value := .agg #[.int .i64 x.ino, .int .i64 x.cl, .int .i64 x.un, .int .i64 x.tk]
structure Les where
  m : Int → Option LeaseD
  tok : Int
def mayLe (i cl now tk : Int) : Bool := decide (1 ≤ i) && (decide (i < 256) && (decide (0 ≤ cl) && (decide (cl < 16) && (decide (0 ≤ now) && (decide (now ≤ 1099511627776) && (decide (1 ≤ tk) && decide (tk ≤ 1000000)))))))
def lePut (m : Int → Option LeaseD) (i : Int) (x : LeaseD) : Int → Option LeaseD := fun k => if i = k then some x else m k
def leDel (m : Int → Option LeaseD) (i : Int) : Int → Option LeaseD := fun k => if i = k then none else m k
def leGrant (L : Les) (i cl now tk : Int) : Les × LeaseD × Int :=
  if mayLe i cl now tk = false then (L, lease0, 1) else
  let x := (L.m i).getD lease0
  if x.un ≤ now then (⟨lePut L.m i ⟨i, cl, now + tk, L.tok + 1⟩, L.tok + 1⟩, ⟨i, cl, now + tk, L.tok + 1⟩, 0)
  else if x.cl ≠ cl then (L, lease0, 11) else
  (⟨lePut L.m i { x with un := if x.un < now + tk then now + tk else x.un }, L.tok⟩, { x with un := if x.un < now + tk then now + tk else x.un }, 0)
def leDrop (L : Les) (i cl tk : Int) : Les × Int :=
  match L.m i with
  | none => (L, 7)
  | some x => if x = ⟨i, cl, x.un, tk⟩ then (⟨leDel L.m i, L.tok⟩, 0) else (L, 11)

/-! ### calls that are done once -/
structure Ent where
  id : Int
  busy : Bool
  re : List UInt8
  deriving DecidableEq
def entL (x : Ent) : List Value := [.int .i64 x.id, .bool x.busy, strV x.re]
abbrev Rps := Int → List Ent
def posE (s : Int) : List Ent → Nat
  | [] => 0
  | v :: L => if v.id < s then posE s L + 1 else 0
def SortedE (L : List Ent) : Prop := L.Pairwise fun a b => a.id < b.id
def atE (L : List Ent) (s : Int) : Option Ent := match L[posE s L]? with | some v => if v.id = s then some v else none | none => none
def mayE (cl id : Int) : Bool := decide (0 ≤ cl) && (decide (cl < 64) && (decide (0 ≤ id) && decide (id < 2147483648)))
def insE (L : List Ent) (id : Int) : List Ent := L.take (posE id L) ++ ⟨id, true, []⟩ :: L.drop (posE id L)
def upE (R : Rps) (cl : Int) (l : List Ent) : Rps := fun k => if k = cl then l else R k
def taE (R : Rps) (cl id : Int) : Rps × Int × List UInt8 :=
  if mayE cl id = false then (R, 0, []) else
  match atE (R cl) id with
  | some x => if x.busy = true then (R, 3, []) else (R, 2, x.re)
  | none => if (R cl).length = 4 ∧ posE id (R cl) = 0 then (R, 4, []) else (upE R cl ((insE (R cl) id).drop ((R cl).length + 1 - 4)), 1, [])
def puE (R : Rps) (cl id : Int) (re : List UInt8) : Rps × Bool :=
  if mayE cl id = false ∨ 4096 < re.length then (R, false) else
  match atE (R cl) id with
  | some x => if x.busy = true then (upE R cl ((R cl).set (posE id (R cl)) ⟨id, false, re⟩), true) else (R, false)
  | none => (R, false)

/-! ### commands -/
structure Cmd where
  cl : Int
  sq : Int
  kd : Int
  a : Int
  b : Int
  c : Int
  d : Int
  e : Int
  deriving DecidableEq
def cmdL (x : Cmd) : List Value := [.int .i64 x.cl, .int .i64 x.sq, .int .i64 x.kd, .int .i64 x.a, .int .i64 x.b, .int .i64 x.c, .int .i64 x.d, .int .i64 x.e]
def cmdV (x : Cmd) : Value := .agg #[.int .i64 x.cl, .int .i64 x.sq, .int .i64 x.kd, .int .i64 x.a, .int .i64 x.b, .int .i64 x.c, .int .i64 x.d, .int .i64 x.e]
def cmd0 : Cmd := ⟨0, 0, 0, 0, 0, 0, 0, 0⟩
def okC (x : Cmd) : Bool := decide (0 ≤ x.cl) && (decide (x.cl < 16) && (decide (0 ≤ x.sq) && (decide (x.sq < 2147483648) && (decide (1 ≤ x.kd) && decide (x.kd ≤ 9)))))
def encC (x : Cmd) : List UInt8 := encI x.cl ++ encI x.sq ++ encI x.kd ++ encI x.a ++ encI x.b ++ encI x.c ++ encI x.d ++ encI x.e
def rdC8 (r : Rd) : Rd × Cmd :=
  let r1 := takeInt r
  let r2 := takeInt r1.1
  let r3 := takeInt r2.1
  let r4 := takeInt r3.1
  let r5 := takeInt r4.1
  let r6 := takeInt r5.1
  let r7 := takeInt r6.1
  let r8 := takeInt r7.1
  (r8.1, ⟨r1.2, r2.2, r3.2, r4.2, r5.2, r6.2, r7.2, r8.2⟩)
def decC (s : List UInt8) : Option Cmd := if okC (rdC8 (some s)).2 = true ∧ (rdC8 (some s)).1 = some [] then some (rdC8 (some s)).2 else none
def ansL (l : List Int) (e : Int) : List Int := if e = 0 then l else []
def ansB (l : List Int) (e : Int) : List UInt8 := UInt8.ofNat (e % 256).toNat :: (encI (ansL l e).length ++ encInts (ansL l e))
def rdAns (s : List UInt8) : Int × List Int × Int :=
  if (takeList takeInt (takeByte (some s)).1).1 = some [] then ((takeByte (some s)).2, (takeList takeInt (takeByte (some s)).1).2, 0) else (0, [], 3)

/-! ### managers -/
structure Mst where
  g : Mem
  s : List St
  i : Im
  u : List UseD
  l : Les
  r : Rps
  gone : Int
def st0 : St := ⟨0, 0, 0, 0, []⟩
def mNew (L S : List Int) : Mst := ⟨⟨L, S, 1, -1, false, -1⟩, [], fun _ => spot0, [], ⟨fun _ => none, 0⟩, fun _ => [], 0⟩
abbrev Told := Mst × List Int × Int
def mBegin (S : Mst) (x : Cmd) : Told := ({ S with s := (SBegin S.s x.cl S.g.e x.a S.g.L).1 }, [(SBegin S.s x.cl S.g.e x.a S.g.L).2.1, S.g.e], (SBegin S.s x.cl S.g.e x.a S.g.L).2.2)
/-- May it not be committed? -/
def fenced (S : Mst) (x : Cmd) : Bool := match getS S.s x.a with
  | some y => decide (y.st = 1) && (decide (y.ow = x.cl) && decide (y.ep ≠ S.g.e))
  | none => false
def lenS (S : Mst) (id : Int) : Int := match getS S.s id with | some y => y.le | none => 0
def mCommit (S : Mst) (x : Cmd) : Told :=
  if fenced S x = true then (S, [], 10) else
  ({ S with s := (SCommit S.s x.a x.cl).1, u := if (SCommit S.s x.a x.cl).2 = 0 ∧ 0 < lenS S x.a then (addT S.u ⟨x.a, lenS S x.a, lenS S x.a, 0⟩).1 else S.u }, [], (SCommit S.s x.a x.cl).2)
def mFree (S : Mst) (x : Cmd) : Told := ({ S with s := (SFree S.s x.a).1, u := if (SFree S.s x.a).2 = 0 then (dropT S.u x.a).1 else S.u }, [], (SFree S.s x.a).2)
def isCom (S : Mst) (id : Int) : Bool := match getS S.s id with | some y => decide (y.st = 2) | none => false
def mMove (S : Mst) (x : Cmd) : Told :=
  if x.d < 0 ∨ x.e < 0 ∨ (isCom S x.c = true ∧ (lenS S x.c < x.d ∨ lenS S x.c - x.d < x.e)) then (S, [], 2) else
  if isCom S x.c = false then (S, [], 7) else
  ({ S with i := (imMove S.i x.a x.b ⟨x.c, x.d, x.e, 0⟩).1, u := if (imMove S.i x.a x.b ⟨x.c, x.d, x.e, 0⟩).2.2 = 0 ∧ (imGet S.i x.a).2 = true then (deadT S.u (imGet S.i x.a).1.seg (imGet S.i x.a).1.le).1 else S.u },
    [(imMove S.i x.a x.b ⟨x.c, x.d, x.e, 0⟩).2.1], (imMove S.i x.a x.b ⟨x.c, x.d, x.e, 0⟩).2.2)
def mFail (S : Mst) (x : Cmd) : Told := ({ S with g := (S.g.fail x.a x.b).1, gone := if (S.g.fail x.a x.b).2 = 0 then x.a else S.gone }, [(S.g.fail x.a x.b).1.e], (S.g.fail x.a x.b).2)
def svOf (L : List St) (id : Int) : List Int := match getS L id with | some y => y.sv | none => []
def mvAll (gone to : Int) (L : List St) (ids : List Int) : List St := ids.foldl (fun L id => (SMove L id (atI (svOf L id) gone) to).1) L
def onS (L : List St) (sr : Int) : List Int := wh (fun x => decide (x.st ≠ 3) && decide (sr ∈ x.sv)) 0 L
def mSwap (S : Mst) (x : Cmd) : Told :=
  if (S.g.swap x.a).2.2 ≠ 0 then ({ S with g := (S.g.swap x.a).1 }, [], (S.g.swap x.a).2.2) else
  ({ S with g := (S.g.swap x.a).1, s := mvAll S.gone (S.g.swap x.a).2.1 S.s (onS S.s S.gone) }, [(S.g.swap x.a).2.1, (S.g.swap x.a).1.e], 0)
def mClose (S : Mst) (x : Cmd) : Told := ({ S with g := (S.g.done x.a).1 }, [(S.g.done x.a).1.e], (S.g.done x.a).2)
def mGrant (S : Mst) (x : Cmd) : Told := ({ S with l := (leGrant S.l x.a x.cl x.b x.c).1 }, [(leGrant S.l x.a x.cl x.b x.c).2.1.tk, (leGrant S.l x.a x.cl x.b x.c).2.1.un], (leGrant S.l x.a x.cl x.b x.c).2.2)
def mDrop (S : Mst) (x : Cmd) : Told := ({ S with l := (leDrop S.l x.a x.cl x.b).1 }, [], (leDrop S.l x.a x.cl x.b).2)
def mDoes (S : Mst) (x : Cmd) : Told :=
  if x.kd = 1 then mBegin S x else if x.kd = 2 then mCommit S x else if x.kd = 3 then mFree S x else if x.kd = 4 then mMove S x else if x.kd = 5 then mFail S x else if x.kd = 6 then mSwap S x else
  if x.kd = 7 then mClose S x else if x.kd = 8 then mGrant S x else mDrop S x
def mDoC (S : Mst) (x : Cmd) : Mst × List UInt8 :=
  if (taE S.r x.cl x.sq).2.1 = 2 then (S, (taE S.r x.cl x.sq).2.2) else
  if (taE S.r x.cl x.sq).2.1 ≠ 1 then (S, ansB [] 16) else
  let y := mDoes { S with r := (taE S.r x.cl x.sq).1 } x
  ({ y.1 with r := (puE y.1.r x.cl x.sq (ansB y.2.1 y.2.2)).1 }, ansB y.2.1 y.2.2)
def mDo (S : Mst) (s : List UInt8) : Mst × List UInt8 := match decC s with
  | none => (S, ansB [] 3)
  | some x => mDoC S x

end Go.Proofs.YtndndcdblfejnaaGreatRI
namespace Go.Proofs.YtndndcdblfejnaaGreatRI
set_option linter.unusedSimpArgs false
set_option linter.unusedVariables false
open Go

/-! ### calls that are done once -/
theorem posE_le (s : Int) : ∀ L : List Ent, posE s L ≤ L.length
  | [] => Nat.le_refl _
  | v :: L => by
    have := posE_le s L
    simp only [posE, List.length_cons]
    split <;> omega
theorem posE_lt {s : Int} : ∀ {L : List Ent} {i : Nat} {v : Ent}, i < posE s L → L[i]? = some v → v.id < s
  | [], i, v, h, _ => by simp [posE] at h
  | w :: L, i, v, h, hv => by
    simp only [posE] at h
    split at h
    · cases i with
      | zero =>
        simp only [List.getElem?_cons_zero, Option.some.injEq] at hv
        subst hv; assumption
      | succ i => exact posE_lt (L := L) (i := i) (by omega) hv
    · omega
theorem posE_at {s : Int} : ∀ {L : List Ent} {v : Ent}, L[posE s L]? = some v → s ≤ v.id
  | [], v, h => by simp at h
  | w :: L, v, h => by
    simp only [posE] at h
    split at h
    · exact posE_at (L := L) (by simpa using h)
    · simp only [List.getElem?_cons_zero, Option.some.injEq] at h
      subst h; omega
theorem posE_ge {s : Int} : ∀ {L : List Ent}, SortedE L → ∀ {i : Nat} {v : Ent}, posE s L ≤ i → L[i]? = some v → s ≤ v.id
  | [], _, i, v, _, hv => by simp at hv
  | w :: L, hs, i, v, h, hv => by
    have hs' := List.pairwise_cons.1 hs
    simp only [posE] at h
    split at h
    · obtain ⟨j, rfl⟩ : ∃ j, i = j + 1 := ⟨i - 1, by omega⟩
      exact posE_ge (L := L) hs'.2 (i := j) (by omega) hv
    · rename_i hn
      cases i with
      | zero =>
        simp only [List.getElem?_cons_zero, Option.some.injEq] at hv
        subst hv; omega
      | succ i =>
        have := hs'.1 v (List.mem_of_getElem? hv)
        omega
theorem posE_app {s : Int} {x : Ent} {C : List Ent} : ∀ (A : List Ent), (∀ a ∈ A, a.id < s) → ¬ x.id < s → posE s (A ++ x :: C) = A.length
  | [], _, h => by simp [posE, h]
  | a :: A, h, hx => by
    rw [List.cons_append, posE, if_pos (h a (by simp)), posE_app A (fun b hb => h b (by simp [hb])) hx]; rfl
theorem atE_app {s : Int} {x : Ent} {A C : List Ent} (hA : ∀ a ∈ A, a.id < s) (hx : x.id = s) : atE (A ++ x :: C) s = some x := by
  unfold atE
  rw [posE_app A hA (by omega), List.getElem?_append_right (Nat.le_refl _), Nat.sub_self, List.getElem?_cons_zero]
  simp [hx]
theorem take_lt {s : Int} {L : List Ent} : ∀ a ∈ L.take (posE s L), a.id < s := fun a ha => by
  obtain ⟨j, hj⟩ := List.getElem?_of_mem ha
  rw [List.getElem?_take] at hj
  split at hj
  · exact posE_lt (by assumption) hj
  · cases hj
theorem atE_some {L : List Ent} {s : Int} {x : Ent} (h : atE L s = some x) : L[posE s L]? = some x ∧ x.id = s := by
  unfold atE at h
  split at h
  · rename_i v hv
    split at h
    · simp only [Option.some.injEq] at h
      subst h
      exact ⟨hv, by assumption⟩
    · cases h
  · cases h
theorem insE_sorted {L : List Ent} {s : Int} (hs : SortedE L) (h : atE L s = none) : SortedE (insE L s) := by
  unfold insE
  have hd := hs
  unfold SortedE at hd ⊢
  rw [← List.take_append_drop (posE s L) L, List.pairwise_append] at hd
  rw [List.pairwise_append]
  refine ⟨hd.1, List.pairwise_cons.2 ⟨fun e he => ?_, hd.2.1⟩, fun a ha b hb => ?_⟩
  · obtain ⟨j, hj⟩ := List.getElem?_of_mem he
    rw [List.getElem?_drop] at hj
    have hge := posE_ge (s := s) hs (i := posE s L + j) (Nat.le_add_right _ _) hj
    have hne : e.id ≠ s := by
      intro e2
      cases j with
      | zero =>
        rw [Nat.add_zero] at hj
        simp [atE, hj, e2] at h
      | succ j =>
        obtain ⟨hl, hle⟩ := List.getElem?_eq_some_iff.1 hj
        have := List.pairwise_iff_getElem.1 hs (posE s L) (posE s L + (j + 1)) (by omega) hl (by omega)
        rw [hle] at this
        have h0 := posE_at (s := s) (List.getElem?_eq_getElem (l := L) (i := posE s L) (by omega))
        omega
    show s < e.id
    omega
  · rcases List.mem_cons.1 hb with rfl | hb
    · exact take_lt a ha
    · exact hd.2.2 a ha b hb
theorem insE_len (L : List Ent) (s : Int) : (insE L s).length = L.length + 1 := by
  have := posE_le s L
  simp only [insE, List.length_append, List.length_take, List.length_cons, List.length_drop]; omega
theorem insE_mem {L : List Ent} {s : Int} {x : Ent} (h : x ∈ insE L s) : x ∈ L ∨ x = ⟨s, true, []⟩ := by
  unfold insE at h
  rcases List.mem_append.1 h with h | h
  · exact .inl (List.mem_of_mem_take h)
  · rcases List.mem_cons.1 h with h | h
    · exact .inr h
    · exact .inl (List.mem_of_mem_drop h)
theorem SortedE.drop {L : List Ent} (h : SortedE L) (n : Nat) : SortedE (L.drop n) := List.Pairwise.sublist (List.drop_sublist n L) h
theorem SortedE.put {L : List Ent} (h : SortedE L) {i : Nat} {x y : Ent} (hx : L[i]? = some x) (hy : y.id = x.id) : SortedE (L.set i y) := by
  unfold SortedE at h ⊢
  rw [List.pairwise_iff_getElem] at h ⊢
  intro a b ha hb hab
  simp only [List.length_set] at ha hb
  have := h a b ha hb hab
  obtain ⟨_, hx2⟩ := List.getElem?_eq_some_iff.1 hx
  rw [List.getElem_set, List.getElem_set]
  split
  · rename_i e; subst e
    rw [if_neg (by omega), hy, ← hx2]; exact this
  · split
    · rename_i e; subst e
      rw [hy, ← hx2]; exact this
    · exact this

structure OkR (R : Rps) : Prop where
  ok : ∀ k, SortedE (R k) ∧ (R k).length ≤ 4 ∧ ∀ x ∈ R k, 0 ≤ x.id ∧ x.id < 2147483648
theorem mayE_iff {cl id : Int} : mayE cl id = true ↔ 0 ≤ cl ∧ cl < 64 ∧ 0 ≤ id ∧ id < 2147483648 := by simp [mayE]
theorem OkR.ta {R : Rps} (h : OkR R) (cl id : Int) : OkR (taE R cl id).1 := by
  unfold taE
  split
  · exact h
  rename_i hm
  have hm := mayE_iff.1 (by simpa using hm)
  split
  · split <;> exact h
  rename_i hn
  split
  · exact h
  refine ⟨fun k => ?_⟩
  unfold upE
  simp only
  split
  · obtain ⟨a, b, d⟩ := h.ok cl
    refine ⟨(insE_sorted a hn).drop _, by rw [List.length_drop, insE_len]; omega, fun x hx => ?_⟩
    rcases insE_mem (List.mem_of_mem_drop hx) with hx | rfl
    · exact d x hx
    · exact ⟨hm.2.2.1, hm.2.2.2⟩
  · exact h.ok k
theorem OkR.pu {R : Rps} (h : OkR R) (cl id : Int) (re : List UInt8) : OkR (puE R cl id re).1 := by
  unfold puE
  split
  · exact h
  split
  · rename_i x hx
    split
    · refine ⟨fun k => ?_⟩
      unfold upE
      simp only
      split
      · obtain ⟨a, b, d⟩ := h.ok cl
        obtain ⟨e1, e2⟩ := atE_some hx
        refine ⟨a.put e1 e2.symm, by rw [List.length_set]; exact b, fun y hy => ?_⟩
        rcases List.mem_or_eq_of_mem_set hy with hy | rfl
        · exact d y hy
        · have := d x (List.mem_of_getElem? e1)
          simp only; omega
      · exact h.ok k
    · exact h
  · exact h
/-- What was taken and put is told again. -/
theorem ta_again {R : Rps} (h : OkR R) {cl id : Int} {re : List UInt8} (h1 : (taE R cl id).2.1 = 1) (hre : re.length ≤ 4096) :
    taE (puE (taE R cl id).1 cl id re).1 cl id = ((puE (taE R cl id).1 cl id re).1, 2, re) := by
  unfold taE at h1
  split at h1
  · cases h1
  rename_i hm
  split at h1
  · split at h1 <;> cases h1
  rename_i hn
  split at h1
  · cases h1
  rename_i h4
  have hl := (h.ok cl).2.1
  have e1 : (taE R cl id).1 = upE R cl ((insE (R cl) id).drop ((R cl).length + 1 - 4)) := by
    unfold taE
    rw [if_neg hm, hn]
    simp only
    rw [if_neg h4]
  obtain ⟨A, hA, eA⟩ : ∃ A : List Ent, (∀ a ∈ A, a.id < id) ∧ (insE (R cl) id).drop ((R cl).length + 1 - 4) = A ++ ⟨id, true, []⟩ :: (R cl).drop (posE id (R cl)) := by
    refine ⟨((R cl).take (posE id (R cl))).drop ((R cl).length + 1 - 4), fun a ha => take_lt a (List.mem_of_mem_drop ha), ?_⟩
    unfold insE
    rw [List.drop_append_of_le_length]
    rw [List.length_take]
    have := posE_le id (R cl)
    omega
  rw [e1, eA]
  have e2 : atE (upE R cl (A ++ ⟨id, true, []⟩ :: (R cl).drop (posE id (R cl))) cl) id = some ⟨id, true, []⟩ := by
    unfold upE; rw [if_pos rfl]; exact atE_app hA rfl
  have e3 : (puE (upE R cl (A ++ ⟨id, true, []⟩ :: (R cl).drop (posE id (R cl)))) cl id re).1 = upE (upE R cl (A ++ ⟨id, true, []⟩ :: (R cl).drop (posE id (R cl)))) cl (A ++ ⟨id, false, re⟩ :: (R cl).drop (posE id (R cl))) := by
    unfold puE
    rw [if_neg (by rintro (h | h); exact hm h; omega), e2]
    simp only [if_true]
    congr 1
    unfold upE
    rw [if_pos rfl, posE_app A hA (by simp), List.set_append_right _ _ (Nat.le_refl _), Nat.sub_self]
    rfl
  rw [e3]
  unfold taE
  rw [if_neg hm]
  have e4 : atE (upE (upE R cl (A ++ ⟨id, true, []⟩ :: (R cl).drop (posE id (R cl)))) cl (A ++ ⟨id, false, re⟩ :: (R cl).drop (posE id (R cl))) cl) id = some ⟨id, false, re⟩ := by
    unfold upE; rw [if_pos rfl]; exact atE_app hA rfl
  rw [e4]
  simp only [Bool.false_eq_true, if_false]

/-! ### commands -/
structure okX (x : Cmd) : Prop where
  cl : okI x.cl
  sq : okI x.sq
  kd : okI x.kd
  a : okI x.a
  b : okI x.b
  c : okI x.c
  d : okI x.d
  e : okI x.e
theorem okC_iff {x : Cmd} : okC x = true ↔ 0 ≤ x.cl ∧ x.cl < 16 ∧ 0 ≤ x.sq ∧ x.sq < 2147483648 ∧ 1 ≤ x.kd ∧ x.kd ≤ 9 := by simp [okC]
theorem rdC8_lay {x : Cmd} (h : okX x) (t : List UInt8) : rdC8 (some (encC x ++ t)) = (some t, x) := by
  unfold rdC8 encC
  simp only [List.append_assoc, takeInt_lay h.cl.1 h.cl.2, takeInt_lay h.sq.1 h.sq.2, takeInt_lay h.kd.1 h.kd.2, takeInt_lay h.a.1 h.a.2, takeInt_lay h.b.1 h.b.2, takeInt_lay h.c.1 h.c.2, takeInt_lay h.d.1 h.d.2, takeInt_lay h.e.1 h.e.2]
theorem decC_enc {x : Cmd} (h : okX x) (hc : okC x = true) : decC (encC x) = some x := by
  have := rdC8_lay h []
  rw [List.append_nil] at this
  unfold decC
  rw [this, if_pos ⟨hc, rfl⟩]
theorem takeInt_none : takeInt none = (none, 0) := rfl
theorem rdC8_inv {s : List UInt8} {x : Cmd} {t : List UInt8} (h : rdC8 (some s) = (some t, x)) : s = encC x ++ t ∧ okX x := by
  unfold rdC8 at h
  simp only [Prod.mk.injEq] at h
  have key : ∀ (r : Rd) (t : List UInt8), (takeInt r).1 = some t → r = some (encI (takeInt r).2 ++ t) ∧ okI (takeInt r).2 := fun r t e => by
    have e2 : takeInt r = (some t, (takeInt r).2) := by rw [← e]
    exact ⟨takeInt_inv e2, takeInt_len e2⟩
  obtain ⟨h8, rfl⟩ := h
  obtain ⟨a8, o8⟩ := key _ _ h8
  obtain ⟨a7, o7⟩ := key _ _ a8
  obtain ⟨a6, o6⟩ := key _ _ a7
  obtain ⟨a5, o5⟩ := key _ _ a6
  obtain ⟨a4, o4⟩ := key _ _ a5
  obtain ⟨a3, o3⟩ := key _ _ a4
  obtain ⟨a2, o2⟩ := key _ _ a3
  obtain ⟨a1, o1⟩ := key _ _ a2
  simp only [Option.some.injEq] at a1
  refine ⟨?_, o1, o2, o3, o4, o5, o6, o7, o8⟩
  unfold encC
  simp only [List.append_assoc]
  exact a1
theorem decC_some {s : List UInt8} {x : Cmd} (h : decC s = some x) : s = encC x ∧ okX x ∧ okC x = true := by
  unfold decC at h
  split at h
  · rename_i hh
    simp only [Option.some.injEq] at h
    subst h
    obtain ⟨e, o⟩ := rdC8_inv (s := s) (t := []) (x := (rdC8 (some s)).2) (by rw [← hh.2])
    rw [List.append_nil] at e
    exact ⟨e, o, hh.1⟩
  · cases h
theorem okI_of {n : Int} (h1 : -1000000 ≤ n) (h2 : n ≤ 1099512627776) : okI n := ⟨by omega, by omega⟩
theorem ansB_rd {l : List Int} {e : Int} (he : 0 ≤ e ∧ e < 256) (hl : ∀ n ∈ l, okI n) (hn : l.length ≤ 1000) : rdAns (ansB l e) = (e, ansL l e, 0) := by
  have hl' : ∀ n ∈ ansL l e, okI n := fun n hn => by unfold ansL at hn; split at hn; exact hl n hn; cases hn
  have hn' : (ansL l e).length ≤ 1000 := by unfold ansL; split; exact hn; simp
  unfold ansB rdAns
  have hb : takeByte (some (UInt8.ofNat (e % 256).toNat :: (encI (ansL l e).length ++ encInts (ansL l e)))) = (some (encI (ansL l e).length ++ encInts (ansL l e)), e) := by
    have e1 : (UInt8.ofNat (e % 256).toNat).toNat = e.toNat := by
      have : (e % 256).toNat = e.toNat := by omega
      rw [this]; simp; omega
    have e2 : ((e.toNat : Nat) : Int) = e := by omega
    simp [takeByte, takeN, e1, e2]
  rw [hb]
  have := takeList_lay (f := encI) (p := okI) ints_lay (fun a => encI_ne a) (l := ansL l e) (by omega) hl' []
  rw [List.append_nil] at this
  simp only [encInts, this, if_true]

/-! ### what stays as it was -/
theorem mDoes_r (S : Mst) (x : Cmd) : (mDoes S x).1.r = S.r := by
  unfold mDoes mBegin mCommit mFree mMove mFail mSwap mClose mGrant mDrop
  repeat' split
  all_goals rfl
theorem ans_len (S : Mst) (x : Cmd) : (mDoes S x).2.1.length ≤ 2 := by
  unfold mDoes mBegin mCommit mFree mMove mFail mSwap mClose mGrant mDrop
  repeat' split
  all_goals simp
end Go.Proofs.YtndndcdblfejnaaGreatRI
namespace Go.Proofs.YtndndcdblfejnaaGreatRI
attribute [local simp] J0 J1 J2 J3 J4 J5 J6 J7 J8 J9 Ja Jb Jc Jd Je Jf Jg Jh Ji Jj Jk Jl Jm Jn Jo Jp Jq Jr Js Jt Ju Jv Jw Jx Jy Jz JA JB JC JD JE JF JG JH JI JJ JK JL JM JN JO JP JQ JR JS stillI IOp.kind JT JU JV JW JX JY JZ Y0 Y1 Y2 Y3 Y4 Y5 Y6 Y7 Y8 Y9 Ya Yb Yc Yd Ye Yf Yg Yh Yi Yj Yk Yl Ym Yn Yo Yp Yq ial Yr Ys Yt Yu Yv Yw Yx Yy ires iresL ires1 Yz YA YB YC YD YE bin2 YF YG YH YI YJ YK YL YM YN YO YP YQ YR YS YT YU un1 shOk eqL eq1 fillL putAt IHeap.load1 IHeap.loadL IHeap.storeL YV YW YX YY YZ B0 B1 B2 B3 B4 B5 B6 B7 B8 B9 Ba Bb Bc Bd Be Bf Bg Bh Bi Bj Bk Bl Bm Bn Bo Bp
set_option linter.unusedSimpArgs false
set_option linter.unusedVariables false
open Go

def Cmd.l (x : Cmd) : List Int := [x.cl, x.sq, x.kd, x.a, x.b, x.c, x.d, x.e]
theorem okX.all {x : Cmd} (h : okX x) : ∀ n ∈ x.l, okI n := by
  intro n hn
  simp only [Cmd.l, List.mem_cons, List.not_mem_nil, or_false] at hn
  rcases hn with rfl | rfl | rfl | rfl | rfl | rfl | rfl | rfl
  · exact h.cl
  · exact h.sq
  · exact h.kd
  · exact h.a
  · exact h.b
  · exact h.c
  · exact h.d
  · exact h.e
theorem encInts_l (x : Cmd) : encInts x.l = encC x := by simp [encInts, Cmd.l, encC, List.append_assoc]
theorem encInts_snoc (l : List Int) (n : Int) : encInts (l ++ [n]) = encInts l ++ encI n := by simp [encInts]
theorem encInts_short {l : List Int} (h : ∀ n ∈ l, okI n) : (encInts l).length ≤ l.length * 10 := by
  induction l with
  | nil => simp [encInts]
  | cons a l ih =>
    have h1 := ih fun n hn => h n (by simp [hn])
    have h2 := encI_len (h a (by simp)).1 (h a (by simp)).2
    have e : encInts (a :: l) = encI a ++ encInts l := by simp [encInts]
    rw [e, List.length_append, List.length_cons]; omega
def ptrs (p : Nat) : List Value := [.pointer (some ⟨p, 0, none⟩), .pointer (some ⟨p, 1, none⟩), .pointer (some ⟨p, 2, none⟩), .pointer (some ⟨p, 3, none⟩), .pointer (some ⟨p, 4, none⟩), .pointer (some ⟨p, 5, none⟩), .pointer (some ⟨p, 6, none⟩), .pointer (some ⟨p, 7, none⟩)]
theorem ptrs_at (p : Nat) {i : Nat} (hi : i < 8) : (ptrs p)[i]? = some (.pointer (some ⟨p, i, none⟩)) := by
  rcases i with _ | _ | _ | _ | _ | _ | _ | _ | i
  all_goals first | rfl | omega
theorem takeInt_okI (r : Rd) : okI (takeInt r).2 := by
  cases r with
  | none => exact ⟨by decide, by decide⟩
  | some s =>
    cases hq : (takeInt (some s)).1 with
    | some t => exact takeInt_len (r := some s) (s := t) (n := (takeInt (some s)).2) (by rw [← hq])
    | none =>
      simp only [takeInt] at hq ⊢
      cases hd : dec 0 0 s with
      | none => simp only; exact ⟨by decide, by decide⟩
      | some un => rw [hd] at hq; simp at hq
/-- So many numbers, one after the other. -/
def rdL : Nat → Rd → Rd × List Int
  | 0, r => (r, [])
  | i + 1, r => ((takeInt (rdL i r).1).1, (rdL i r).2 ++ [(takeInt (rdL i r).1).2])
theorem rdL_len : ∀ (i : Nat) (r : Rd), (rdL i r).2.length = i
  | 0, _ => rfl
  | i + 1, r => by simp [rdL, rdL_len i r]
theorem rdL_8 (r : Rd) : (rdL 8 r).1 = (rdC8 r).1 ∧ (rdL 8 r).2 = (rdC8 r).2.l := ⟨rfl, rfl⟩
theorem rdC8_ok (r : Rd) : okX (rdC8 r).2 := ⟨takeInt_okI _, takeInt_okI _, takeInt_okI _, takeInt_okI _, takeInt_okI _, takeInt_okI _, takeInt_okI _, takeInt_okI _⟩

section
variable (c : Ctx) (hM : HasMgr28 c) (hC : HasCodec c) {H : IHeap} {K : Value → IHeap → Prop}

include hM in
theorem ints_ok {p : Nat} (hK : ∀ H', H.le H' → H'.next = H.next + 1 → H'.get H.next = some (.cells (ptrs p) false) → K (.slice (some ⟨H.next, 0, none⟩) 8 8) H') : c.C (c.F n_manager_ints) [.pointer (some ⟨p, 0, none⟩)] H K := by
  refine c.enter hM.manager_ints rfl ?_
  simp -implicitDefEqProofs [c_manager_ints, nilOf]
  exact hK _ (H.le_alloc _) rfl (by rw [YV, if_pos rfl]; rfl)

include hM hC in
theorem Encode_ok {x : Cmd} (hx : okX x) (hK : ∀ H', H.le H' → K (.tuple #[strV (if okC x = true then encC x else []), .int .i64 (if okC x = true then 0 else 1)]) H') : c.C (c.F n_manager_Encode) [cmdV x] H K := by
  refine c.enter hM.manager_Encode rfl ?_
  have bad : okC x = false → ∀ H', H.le H' → K (.tuple #[.string ⟨#[]⟩, .int .i64 1]) H' := fun h H' hl => by
    have := hK H' hl
    rw [if_neg (by rw [h]; simp), if_neg (by rw [h]; simp)] at this
    exact this
  have e : okC x = (decide (0 ≤ x.cl) && (decide (x.cl < 16) && (decide (0 ≤ x.sq) && (decide (x.sq < 2147483648) && (decide (1 ≤ x.kd) && decide (x.kd ≤ 9)))))) := rfl
  unfold cmdV
  by_cases a1 : x.cl < 0
  · simp -implicitDefEqProofs [c_manager_Encode, a1]
    exact bad (by rw [e]; simp; omega) _ (by (repeat' first | exact IHeap.le_refl _ | assumption | apply IHeap.le.alloc | (refine IHeap.le.set ?_ (by (try simp only [YX, YY]); omega) _) | (refine IHeap.le.trans ?_ (by assumption))))
  by_cases a2 : 16 ≤ x.cl
  · simp -implicitDefEqProofs [c_manager_Encode, a1, a2]
    exact bad (by rw [e]; simp; omega) _ (by (repeat' first | exact IHeap.le_refl _ | assumption | apply IHeap.le.alloc | (refine IHeap.le.set ?_ (by (try simp only [YX, YY]); omega) _) | (refine IHeap.le.trans ?_ (by assumption))))
  by_cases a3 : x.sq < 0
  · simp -implicitDefEqProofs [c_manager_Encode, a1, a2, a3]
    exact bad (by rw [e]; simp; omega) _ (by (repeat' first | exact IHeap.le_refl _ | assumption | apply IHeap.le.alloc | (refine IHeap.le.set ?_ (by (try simp only [YX, YY]); omega) _) | (refine IHeap.le.trans ?_ (by assumption))))
  by_cases a4 : 2147483648 ≤ x.sq
  · simp -implicitDefEqProofs [c_manager_Encode, a1, a2, a3, a4]
    exact bad (by rw [e]; simp; omega) _ (by (repeat' first | exact IHeap.le_refl _ | assumption | apply IHeap.le.alloc | (refine IHeap.le.set ?_ (by (try simp only [YX, YY]); omega) _) | (refine IHeap.le.trans ?_ (by assumption))))
  by_cases a5 : x.kd < 1
  · simp -implicitDefEqProofs [c_manager_Encode, a1, a2, a3, a4, a5]
    exact bad (by rw [e]; simp; omega) _ (by (repeat' first | exact IHeap.le_refl _ | assumption | apply IHeap.le.alloc | (refine IHeap.le.set ?_ (by (try simp only [YX, YY]); omega) _) | (refine IHeap.le.trans ?_ (by assumption))))
  by_cases a6 : 9 < x.kd
  · simp -implicitDefEqProofs [c_manager_Encode, a1, a2, a3, a4, a5, a6]
    exact bad (by rw [e]; simp; omega) _ (by (repeat' first | exact IHeap.le_refl _ | assumption | apply IHeap.le.alloc | (refine IHeap.le.set ?_ (by (try simp only [YX, YY]); omega) _) | (refine IHeap.le.trans ?_ (by assumption))))
  have ho : okC x = true := okC_iff.2 ⟨by omega, by omega, by omega, by omega, by omega, by omega⟩
  rw [if_pos ho, if_pos ho] at hK
  obtain ⟨HA, hHA⟩ : ∃ X : IHeap, X = H.alloc (.cells [.int .i64 x.cl, .int .i64 x.sq, .int .i64 x.kd, .int .i64 x.a, .int .i64 x.b, .int .i64 x.c, .int .i64 x.d, .int .i64 x.e] false) := ⟨_, rfl⟩
  have kA : H.le HA := by rw [hHA]; exact H.le_alloc _
  have nA : HA.next = H.next + 1 := by rw [hHA]; rfl
  have gA : HA.get H.next = some (.cells (x.l.map iV) false) := by rw [hHA, YV, if_pos rfl]; rfl
  have gA' : HA.get H.next = some (.cells [.int .i64 x.cl, .int .i64 x.sq, .int .i64 x.kd, .int .i64 x.a, .int .i64 x.b, .int .i64 x.c, .int .i64 x.d, .int .i64 x.e] false) := gA
  simp -implicitDefEqProofs [c_manager_Encode, a1, a2, a3, a4, a5, a6, ← hHA, gA']
  refine call_of (NewWriter_ok c hC fun pw H1 n1 k1 w1 => ?_)
  simp -implicitDefEqProofs []
  refine call_of (ints_ok c hM fun H2 k2 n2 g2 => ?_)
  simp -implicitDefEqProofs []
  have w2 := w1.le k2
  have gB := ((k1.trans k2).get H.next (by omega)).trans gA
  have hl8 : x.l.length = 8 := rfl
  have k1n := k1.next
  have hpw : pw < H1.next := w1.1
  refine loop_nat c.mono (fun m T H' => ∃ i : Nat, i ≤ 8 ∧ m = 8 - i ∧ T 36 = .slice (some ⟨H1.next, 0, none⟩) 8 8 ∧ T 37 = .int .i64 8 ∧ T 38 = .int .i64 i ∧ T 4 = .pointer (some ⟨pw, 0, none⟩) ∧ H.le H' ∧ H1.next < H'.next ∧
    H'.get H.next = some (.cells (x.l.map iV) false) ∧ H'.get H1.next = some (.cells (ptrs H.next) false) ∧ IsW H' pw ⟨65536, encInts (x.l.take i), 0⟩) 8 ?_ ?_
  · refine ⟨0, by omega, by omega, by simp -implicitDefEqProofs [], by simp -implicitDefEqProofs [], by simp -implicitDefEqProofs [], by simp -implicitDefEqProofs [], (kA.trans k1).trans k2, by omega, gB, g2, w2⟩
  · rintro m T H' ⟨i, hi, rfl, t36, t37, t38, t4, hle, hn, gx, gp, hw⟩
    by_cases h8 : i < 8
    · have h8I : (i : Int) < 8 := by omega
      have hp := ptrs_at H.next h8
      obtain ⟨n, hn'⟩ : ∃ n, x.l[i]? = some n := ⟨_, List.getElem?_eq_getElem (by omega)⟩
      have hx2 : (x.l.map iV)[i]? = some (.int .i64 n) := by rw [List.getElem?_map, hn']; rfl
      have ho2 := hx.all n (List.mem_of_getElem? hn')
      have w5 : IntKind.i64.wrap ((i : Int) + 1) = (i : Int) + 1 := wrap64 (by omega) (by omega)
      simp -implicitDefEqProofs [t36, t37, t38, t4, h8, h8I, gp, hp, gx, hx2]
      refine call_of (WInt_ok c hC hw ho2.1 ho2.2 fun H4 u4 w4 => ?_)
      simp -implicitDefEqProofs [t38, w5]
      have ht : x.l.take (i + 1) = x.l.take i ++ [n] := by rw [List.take_add_one, hn']; rfl
      have hlay : Wr.lay ⟨65536, encInts (x.l.take i), 0⟩ (encI n) = ⟨65536, encInts (x.l.take (i + 1)), 0⟩ := by
        have l1 := encInts_short (l := x.l.take (i + 1)) fun n hn => hx.all n (List.mem_of_mem_take hn)
        rw [List.length_take] at l1
        rw [ht, encInts_snoc]
        rw [ht, encInts_snoc] at l1
        unfold Wr.lay
        rw [if_neg (by simp), if_neg (by simp only; omega)]
      rw [hlay] at w4
      refine ⟨8 - (i + 1), by omega, i + 1, by omega, rfl, t36, t37, by simp, t4, ⟨Nat.le_trans hle.next u4.next, fun b hb => ?_⟩, Nat.lt_of_lt_of_le hn u4.next, (u4.get _ (by have := hle.next; omega) (by simp; omega)).trans gx, (u4.get _ hn (by simp; omega)).trans gp, w4⟩
      have := hle.next
      exact (u4.get b (by omega) (by simp; omega)).trans (hle.get b hb)
    · have : i = 8 := by omega
      subst this
      have h8I : ¬ ((8 : Nat) : Int) < 8 := by omega
      simp -implicitDefEqProofs [t36, t37, t38, t4, h8I]
      refine call_of (WDone_ok c hC hw ?_)
      have et : encInts (x.l.take 8) = encC x := by rw [List.take_of_length_le (by rw [hl8]; exact Nat.le_refl _), encInts_l]
      simp -implicitDefEqProofs [Wr.done, et]
      exact hK _ hle
include hM hC in
theorem Decode_ok {s : List UInt8} (hs : s.length ≤ 1000000) (hK : ∀ H', H.le H' → K (.tuple #[cmdV ((decC s).getD cmd0), .int .i64 (if (decC s).isSome = true then 0 else 3)]) H') : c.C (c.F n_manager_Decode) [strV s] H K := by
  refine c.enter hM.manager_Decode rfl ?_
  obtain ⟨HA, hHA⟩ : ∃ X : IHeap, X = H.alloc (.cells [.int .i64 0, .int .i64 0, .int .i64 0, .int .i64 0, .int .i64 0, .int .i64 0, .int .i64 0, .int .i64 0] false) := ⟨_, rfl⟩
  have kA : H.le HA := by rw [hHA]; exact H.le_alloc _
  have nA : HA.next = H.next + 1 := by rw [hHA]; rfl
  have gA : HA.get H.next = some (.cells [.int .i64 0, .int .i64 0, .int .i64 0, .int .i64 0, .int .i64 0, .int .i64 0, .int .i64 0, .int .i64 0] false) := by rw [hHA, YV, if_pos rfl]
  simp -implicitDefEqProofs [c_manager_Decode, ← hHA]
  refine call_of (NewReader_ok c hC hs fun pr H1 n1 k1 r1 => ?_)
  have k1n := k1.next
  have hpr : pr < H1.next := r1.1
  obtain ⟨HB, hHB⟩ : ∃ X : IHeap, X = (H1.alloc (.cells [.int .i64 0, .int .i64 0, .int .i64 0, .int .i64 0, .int .i64 0, .int .i64 0, .int .i64 0, .int .i64 0] false)).set H1.next (.cells [.int .i64 0, .int .i64 0, .int .i64 0, .int .i64 0, .int .i64 0, .int .i64 0, .int .i64 0, .int .i64 0] false) := ⟨_, rfl⟩
  have kB : H1.le HB := by rw [hHB]; exact (H1.le_alloc _).set (Nat.le_refl _) _
  have nB : HB.next = H1.next + 1 := by rw [hHB]; rfl
  have gB : HB.get H1.next = some (.cells [.int .i64 0, .int .i64 0, .int .i64 0, .int .i64 0, .int .i64 0, .int .i64 0, .int .i64 0, .int .i64 0] false) := by rw [hHB, YW, if_pos rfl]
  simp -implicitDefEqProofs [← hHB]
  refine call_of (ints_ok c hM fun H2 k2 n2 g2 => ?_)
  have g0 := ((k1.trans kB).trans k2).get H.next (by omega) |>.trans gA
  have gB2 := (k2.get H1.next (by omega)).trans gB
  simp -implicitDefEqProofs []
  refine loop_nat c.mono (fun m T H' => ∃ i : Nat, i ≤ 8 ∧ m = 8 - i ∧ T 13 = .slice (some ⟨HB.next, 0, none⟩) 8 8 ∧ T 14 = .int .i64 8 ∧ T 15 = .int .i64 i ∧ T 4 = .pointer (some ⟨pr, 0, none⟩) ∧ T 5 = .pointer (some ⟨H1.next, 0, none⟩) ∧ T 2 = .pointer (some ⟨H.next, 0, none⟩) ∧ H.le H' ∧ HB.next < H'.next ∧
    H'.get H.next = some (.cells [.int .i64 0, .int .i64 0, .int .i64 0, .int .i64 0, .int .i64 0, .int .i64 0, .int .i64 0, .int .i64 0] false) ∧
    H'.get H1.next = some (.cells ((rdL i (some s)).2.map iV ++ List.replicate (8 - i) (.int .i64 0)) false) ∧ H'.get HB.next = some (.cells (ptrs H1.next) false) ∧ IsR H' pr (rdL i (some s)).1) 8 ?_ ?_
  · refine ⟨0, by omega, by omega, by simp -implicitDefEqProofs [], by simp -implicitDefEqProofs [], by simp -implicitDefEqProofs [], by simp -implicitDefEqProofs [], by simp -implicitDefEqProofs [], by simp -implicitDefEqProofs [], ((kA.trans k1).trans kB).trans k2, by omega, g0, gB2, g2, (r1.le kB).le k2⟩
  · rintro m T H' ⟨i, hi, rfl, t13, t14, t15, t4, t5, t2, hle, hn, g0', gx, gp, hr⟩
    by_cases h8 : i < 8
    · have h8I : (i : Int) < 8 := by omega
      have hp := ptrs_at H1.next h8
      have w5 : IntKind.i64.wrap ((i : Int) + 1) = (i : Int) + 1 := wrap64 (by omega) (by omega)
      simp -implicitDefEqProofs [t13, t14, t15, t4, h8, h8I, gp, hp]
      refine call_of (RInt_ok c hC hr fun H4 u4 r4 => ?_)
      have e1 : H4.get H1.next = some (.cells ((rdL i (some s)).2.map iV ++ List.replicate (8 - i) (.int .i64 0)) false) := (u4.get _ (by omega) (by simp; omega)).trans gx
      have hll : ((rdL i (some s)).2.map iV ++ List.replicate (8 - i) (Value.int .i64 0)).length = 8 := by simp [rdL_len]; omega
      have hput : ((rdL i (some s)).2.map iV ++ List.replicate (8 - i) (Value.int .i64 0)).take i ++ Value.int .i64 (takeInt (rdL i (some s)).1).2 :: ((rdL i (some s)).2.map iV ++ List.replicate (8 - i) (Value.int .i64 0)).drop (i + 1) = (rdL (i + 1) (some s)).2.map iV ++ List.replicate (8 - (i + 1)) (.int .i64 0) := by
        have hlr : ((rdL i (some s)).2.map iV).length = i := by rw [List.length_map]; exact rdL_len i (some s)
        obtain ⟨j, hj⟩ : ∃ j, 8 - i = j + 1 := ⟨7 - i, by omega⟩
        rw [hj, show 8 - (i + 1) = j by omega, List.replicate_succ]
        have e2 : (rdL (i + 1) (some s)).2.map iV = (rdL i (some s)).2.map iV ++ [Value.int .i64 (takeInt (rdL i (some s)).1).2] := by simp [rdL, iV]
        rw [e2]
        obtain ⟨A, hA⟩ : ∃ A, A = (rdL i (some s)).2.map iV := ⟨_, rfl⟩
        rw [← hA] at hlr ⊢
        rw [List.take_left' hlr, show A ++ Value.int .i64 0 :: List.replicate j (Value.int .i64 0) = (A ++ [Value.int .i64 0]) ++ List.replicate j (Value.int .i64 0) by simp, List.drop_left' (by simp [hlr])]
        simp
      obtain ⟨L1, hL1⟩ : ∃ L1, L1 = (rdL i (some s)).2.map iV ++ List.replicate (8 - i) (Value.int .i64 0) := ⟨_, rfl⟩
      rw [← hL1] at e1 hll hput
      have hi8 : i + 1 ≤ 8 := by omega
      obtain ⟨nv, hnv⟩ : ∃ nv, nv = (takeInt (rdL i (some s)).1).2 := ⟨_, rfl⟩
      rw [← hnv] at hput ⊢
      simp -implicitDefEqProofs [t15, w5, e1, hll, hi8, hput]
      have hpr1 : H1.next ≠ pr := by omega
      have := u4.next
      have hl4 := hle.next
      have r4n := r4.1
      refine ⟨8 - (i + 1), by omega, i + 1, by omega, rfl, t13, t14, by simp, t4, t5, t2, ⟨by rw [YY]; omega, fun b hb => ?_⟩, by omega, ?_, by simp, ?_, ?_⟩
      · rw [YW, if_neg (by omega)]
        exact (u4.get b (by omega) (by simp; omega)).trans (hle.get b hb)
      · rw [if_neg (by omega)]
        exact (u4.get _ (by omega) (by simp; omega)).trans g0'
      · rw [if_neg (by omega)]
        exact (u4.get _ (by omega) (by simp; omega)).trans gp
      · exact ⟨by rw [YY]; exact r4.1, r4.2.1, by rw [YW, if_neg (fun e => hpr1 e.symm)]; exact r4.2.2⟩
    · have : i = 8 := by omega
      subst this
      have h8I : ¬ ((8 : Nat) : Int) < 8 := by omega
      obtain ⟨q1, q2⟩ := rdL_8 (some s)
      rw [q2] at gx
      rw [q1] at hr
      obtain ⟨x, hx⟩ : ∃ x, x = (rdC8 (some s)).2 := ⟨_, rfl⟩
      have hxo : okX x := by rw [hx]; exact rdC8_ok _
      rw [← hx] at gx
      have gx' : H'.get H1.next = some (.cells [.int .i64 x.cl, .int .i64 x.sq, .int .i64 x.kd, .int .i64 x.a, .int .i64 x.b, .int .i64 x.c, .int .i64 x.d, .int .i64 x.e] false) := gx
      simp -implicitDefEqProofs [t13, t14, t15, t4, t5, h8I, gx']
      refine call_of (Encode_ok c hM hC hxo fun H5 k5 => ?_)
      have hr5 := hr.le k5
      have gx5 := (k5.get _ (by omega)).trans gx'
      have g05 := (k5.get _ (by omega)).trans g0'
      have hd : decC s = if okC x = true ∧ (rdC8 (some s)).1 = some [] then some x else none := by rw [hx]; rfl
      rw [hd] at hK
      by_cases ho : okC x = true
      · by_cases he : (rdC8 (some s)).1 = some []
        · rw [if_pos ⟨ho, he⟩] at hK
          have hre : rdE (rdC8 (some s)).1 = 0 := if_pos he
          simp -implicitDefEqProofs [ho, t4, t5, t2]
          refine call_of (RDone_ok c hC hr5 ?_)
          simp -implicitDefEqProofs [hre, t5, t2, gx5, g05]
          have k6 := (hle.trans k5).set (Nat.le_refl _) (.cells [.int .i64 x.cl, .int .i64 x.sq, .int .i64 x.kd, .int .i64 x.a, .int .i64 x.b, .int .i64 x.c, .int .i64 x.d, .int .i64 x.e] false)
          exact hK _ k6
        · rw [if_neg (fun z => he z.2)] at hK
          have hre : rdE (rdC8 (some s)).1 = 3 := if_neg he
          simp -implicitDefEqProofs [ho, t4, t5, t2]
          refine call_of (RDone_ok c hC hr5 ?_)
          simp -implicitDefEqProofs [hre, t5, t2, gx5, g05]
          have k6 := (hle.trans k5).set (Nat.le_refl _) (.cells [.int .i64 0, .int .i64 0, .int .i64 0, .int .i64 0, .int .i64 0, .int .i64 0, .int .i64 0, .int .i64 0] false)
          exact hK _ k6
      · rw [if_neg (fun z => ho z.1)] at hK
        simp -implicitDefEqProofs [ho, t4, t5, t2, gx5, g05]
        have k6 := (hle.trans k5).set (Nat.le_refl _) (.cells [.int .i64 0, .int .i64 0, .int .i64 0, .int .i64 0, .int .i64 0, .int .i64 0, .int .i64 0, .int .i64 0] false)
        exact hK _ k6

include hM hC in
theorem answer_ok {l : List Int} {u : Value} {e : Int} (hu : SlR H 1 u (l.map rowI)) (hl : ∀ n ∈ l, okI n) (hn : l.length ≤ 100) (he : 0 ≤ e ∧ e < 256) (hK : ∀ H', H.le H' → K (strV (ansB l e)) H') : c.C (c.F n_manager_answer) [u, .int .i64 e] H K := by
  refine c.enter hM.manager_answer rfl ?_
  have hl' : ∀ n ∈ ansL l e, okI n := fun n hn => by unfold ansL at hn; split at hn; exact hl n hn; cases hn
  have hn' : (ansL l e).length ≤ 100 := by unfold ansL; split; exact hn; simp
  have fin : ∀ pw H2, H.le H2 → IsW H2 pw (((⟨65536, [], 0⟩ : Wr).byte e).lay (encI (ansL l e).length ++ encInts (ansL l e))) → (((⟨65536, [], 0⟩ : Wr).byte e).lay (encI (ansL l e).length ++ encInts (ansL l e))).done = .tuple #[strV (ansB l e), .int .i64 0] := fun pw H2 k w => by
    have s1 := encInts_short hl'
    have s2 := encI_len (n := ((ansL l e).length : Int)) (by omega) (by omega)
    have e1 : (⟨65536, [], 0⟩ : Wr).byte e = ⟨65536, [UInt8.ofNat (e % 256).toNat], 0⟩ := by
      have hz : ¬ ((⟨65536, [], 0⟩ : Wr).e = 0 ∧ (e < 0 ∨ 255 < e)) := by rintro ⟨_, h⟩; omega
      unfold Wr.byte
      rw [if_neg hz]
      simp [Wr.lay]
    rw [e1]
    have e2 : Wr.lay ⟨65536, [UInt8.ofNat (e % 256).toNat], 0⟩ (encI (ansL l e).length ++ encInts (ansL l e)) = ⟨65536, ansB l e, 0⟩ := by
      unfold Wr.lay
      have e3 : (([UInt8.ofNat (e % 256).toNat] ++ (encI (ansL l e).length ++ encInts (ansL l e))).length : Int) ≤ 65536 := by
        have e4 : ([UInt8.ofNat (e % 256).toNat] ++ (encI (ansL l e).length ++ encInts (ansL l e))).length = 1 + ((encI (ansL l e).length).length + (encInts (ansL l e)).length) := by simp only [List.length_append, List.length_cons, List.length_nil]
        rw [e4]
        omega
      rw [if_neg (by simp), if_neg (by simp only; omega)]
      rfl
    rw [e2]
    rfl
  by_cases h0 : e = 0
  · have ha : ansL l e = l := if_pos h0
    simp -implicitDefEqProofs [c_manager_answer, h0]
    refine call_of (NewWriter_ok c hC fun pw H1 n1 k1 w1 => ?_)
    have w1 : IsW H1 pw ⟨65536, [], 0⟩ := w1
    simp -implicitDefEqProofs []
    refine call_of (WByte_ok c hC (n := 0) w1 fun H2 u2 w2 => ?_)
    have hn2 := u2.next
    have k2 : H.le H2 := ⟨by have := k1.next; omega, fun b hb => (u2.get b (by have := k1.next; omega) (by simp; omega)).trans (k1.get b hb)⟩
    simp -implicitDefEqProofs []
    refine call_of (WInts_ok c hC (m := l) w2 (hu.le k2) hl (by omega) fun H3 u3 w3 => ?_)
    have k3 : H.le H3 := ⟨by have := u3.next; have := k2.next; omega, fun b hb => (u3.get b (by have := k2.next; omega) (by simp; omega)).trans (k2.get b hb)⟩
    simp -implicitDefEqProofs []
    refine call_of (WDone_ok c hC w3 ?_)
    rw [h0] at fin hK ha
    rw [ha] at fin
    have fi := fin pw H3 k3 w3
    rw [fi]
    simp -implicitDefEqProofs []
    exact hK _ k3
  · have ha : ansL l e = [] := if_neg h0
    simp -implicitDefEqProofs [c_manager_answer, h0]
    refine call_of (NewWriter_ok c hC fun pw H1 n1 k1 w1 => ?_)
    have w1 : IsW H1 pw ⟨65536, [], 0⟩ := w1
    simp -implicitDefEqProofs []
    refine call_of (WByte_ok c hC (n := e) w1 fun H2 u2 w2 => ?_)
    have k2 : H.le H2 := ⟨by have := k1.next; have := u2.next; omega, fun b hb => (u2.get b (by have := k1.next; omega) (by simp; omega)).trans (k1.get b hb)⟩
    simp -implicitDefEqProofs []
    refine call_of (WInts_ok c hC (m := []) w2 (SlW.nil H2 1).1 (by simp) (by simp) fun H3 u3 w3 => ?_)
    have k3 : H.le H3 := ⟨by have := u3.next; have := k2.next; omega, fun b hb => (u3.get b (by have := k2.next; omega) (by simp; omega)).trans (k2.get b hb)⟩
    simp -implicitDefEqProofs []
    refine call_of (WDone_ok c hC w3 ?_)
    rw [ha] at fin
    have fi := fin pw H3 k3 w3
    rw [fi]
    simp -implicitDefEqProofs []
    exact hK _ k3

include hM hC in
theorem Answer_ok {s : List UInt8} (hs : s.length ≤ 1000000) (hK : ∀ v H', H.le H' → Grow H' H.next 1 v ((rdAns s).2.1.map rowI) → K (.tuple #[.int .i64 (rdAns s).1, v, .int .i64 (rdAns s).2.2]) H') : c.C (c.F n_manager_Answer) [strV s] H K := by
  refine c.enter hM.manager_Answer rfl ?_
  simp -implicitDefEqProofs [c_manager_Answer]
  refine call_of (NewReader_ok c hC hs fun pr H1 n1 k1 r1 => ?_)
  simp -implicitDefEqProofs []
  refine call_of (RByte_ok c hC r1 fun H2 u2 r2 => ?_)
  have k2 : H.le H2 := ⟨by have := k1.next; have := u2.next; omega, fun b hb => (u2.get b (by have := k1.next; omega) (by simp; omega)).trans (k1.get b hb)⟩
  simp -implicitDefEqProofs []
  refine call_of (RInts_ok c hC r2 fun v H3 u3 r3 gr => ?_)
  have k3 : H.le H3 := ⟨by have := u3.next; have := k2.next; omega, fun b hb => (u3.get b (by have := k2.next; omega) (by simp; omega)).trans (k2.get b hb)⟩
  simp -implicitDefEqProofs []
  refine call_of (RDone_ok c hC r3 ?_)
  unfold rdAns at hK
  by_cases h : (takeList takeInt (takeByte (some s)).1).1 = some []
  · rw [if_pos h] at hK
    have hre : rdE (takeList takeInt (takeByte (some s)).1).1 = 0 := if_pos h
    simp -implicitDefEqProofs [hre]
    exact hK v _ k3 (gr.weak (by have := k2.next; omega))
  · rw [if_neg h] at hK
    have hre : rdE (takeList takeInt (takeByte (some s)).1).1 = 3 := if_neg h
    simp -implicitDefEqProofs [hre]
    exact hK _ _ k3 (.inl ⟨rfl, rfl⟩)
end
end Go.Proofs.YtndndcdblfejnaaGreatRI
namespace Go.Proofs.YtndndcdblfejnaaGreatRI
set_option linter.unusedSimpArgs false
set_option linter.unusedVariables false
open Go

structure Bnd (n : Nat) (S : Mst) : Prop where
  e : 1 ≤ S.g.e ∧ S.g.e ≤ 1 + (n : Int)
  ul : S.u.length ≤ n
  uo : ∀ x ∈ S.u, okT x
  i : ∀ k, 0 ≤ (S.i k).ver ∧ (S.i k).ver ≤ (n : Int)
  lt : 0 ≤ S.l.tok ∧ S.l.tok ≤ (n : Int)
  lu : ∀ k x, S.l.m k = some x → 0 ≤ x.un ∧ x.un ≤ 1099512627776 ∧ 0 ≤ x.tk ∧ x.tk ≤ (n : Int)
  sl : S.s.length ≤ n
  gg : okI S.gone ∧ ∀ y ∈ S.g.S, 0 ≤ y ∧ y < 64
  r : OkR S.r
  us : SortedT S.u

theorem Bnd.weak {n m : Nat} {S : Mst} (h : Bnd n S) (hm : n ≤ m) : Bnd m S :=
  ⟨⟨h.e.1, by have := h.e.2; omega⟩, by have := h.ul; omega, h.uo, fun k => ⟨(h.i k).1, by have := (h.i k).2; omega⟩, ⟨h.lt.1, by have := h.lt.2; omega⟩, fun k x hx => by have := h.lu k x hx; omega, by have := h.sl; omega, h.gg, h.r, h.us⟩
theorem fail_e (m : Mem) (s e : Int) : (m.fail s e).1.e = m.e ∨ (m.fail s e).1.e = m.e + 1 := by
  unfold Mem.fail
  repeat' split
  all_goals simp
theorem fail_S (m : Mem) (s e : Int) : (m.fail s e).1.S = m.S := by
  unfold Mem.fail
  repeat' split
  all_goals rfl
theorem done_e (m : Mem) (e : Int) : (m.done e).1.e = m.e ∨ (m.done e).1.e = m.e + 1 := by
  unfold Mem.done
  repeat' split
  all_goals simp
theorem done_S (m : Mem) (e : Int) : (m.done e).1.S = m.S := by
  unfold Mem.done
  repeat' split
  all_goals rfl
theorem swap_e (m : Mem) (e : Int) : (m.swap e).1.e = m.e ∨ (m.swap e).1.e = m.e + 1 := by
  unfold Mem.swap
  repeat' split
  all_goals simp
theorem swap_S (m : Mem) (e : Int) : (∀ y ∈ (m.swap e).1.S, y ∈ m.S) ∧ ((m.swap e).2.1 = 0 ∨ (m.swap e).2.1 ∈ m.S) := by
  unfold Mem.swap
  split
  · rename_i hS; rw [hS]; exact ⟨fun _ h => (by simp at h), .inl rfl⟩
  · rename_i s r hS
    rw [hS]
    repeat' split
    · exact ⟨fun y hy => hS ▸ hy, .inl rfl⟩
    · exact ⟨fun y hy => hS ▸ hy, .inl rfl⟩
    · exact ⟨fun y hy => by simp only at hy; simp [hy], .inr (by simp)⟩
theorem dropT_mem {L : List UseD} {s : Int} : (∀ x ∈ (dropT L s).1, x ∈ L) ∧ (dropT L s).1.length ≤ L.length := by
  unfold dropT
  split
  · exact ⟨fun x hx => List.mem_of_mem_eraseIdx hx, List.length_eraseIdx_le _ _⟩
  · exact ⟨fun x hx => hx, Nat.le_refl _⟩
theorem dropT_sorted {L : List UseD} (h : SortedT L) (s : Int) : SortedT (dropT L s).1 := by
  unfold dropT
  split
  · exact List.Pairwise.sublist (List.eraseIdx_sublist _ _) h
  · exact h
theorem SBegin_len (L : List St) (ow ep le : Int) (sv : List Int) : (SBegin L ow ep le sv).1.length ≤ L.length + 1 ∧ 0 ≤ (SBegin L ow ep le sv).2.1 ∧ (SBegin L ow ep le sv).2.1 ≤ L.length := by
  unfold SBegin
  repeat' split
  · simp only; omega
  · simp only; omega
  · simp
theorem SCommit_len (L : List St) (id ow : Int) : (SCommit L id ow).1.length = L.length := by
  unfold SCommit
  repeat' split
  all_goals simp
theorem SFree_len (L : List St) (id : Int) : (SFree L id).1.length = L.length := by
  unfold SFree
  repeat' split
  all_goals simp
theorem SMove_len (L : List St) (id ix sr : Int) : (SMove L id ix sr).1.length = L.length := by
  unfold SMove
  repeat' split
  all_goals simp
theorem mvAll_len (gone to : Int) (ids : List Int) : ∀ L : List St, (mvAll gone to L ids).length = L.length := by
  induction ids with
  | nil => intro L; rfl
  | cons a ids ih =>
    intro L
    show (mvAll gone to (SMove L a (atI (svOf L a) gone) to).1 ids).length = _
    rw [ih, SMove_len]
theorem imMove_bd {I : Im} {n : Nat} (h : ∀ k, 0 ≤ (I k).ver ∧ (I k).ver ≤ (n : Int)) (i v : Int) (to : SpotD) : (∀ k, 0 ≤ ((imMove I i v to).1 k).ver ∧ ((imMove I i v to).1 k).ver ≤ ((n + 1 : Nat) : Int)) ∧ 0 ≤ (imMove I i v to).2.1 ∧ (imMove I i v to).2.1 ≤ (n : Int) + 1 := by
  have hw : ∀ k, 0 ≤ (I k).ver ∧ (I k).ver ≤ ((n + 1 : Nat) : Int) := fun k => by have := h k; omega
  unfold imMove
  repeat' split
  · exact ⟨hw, by simp only; omega⟩
  · exact ⟨hw, by simp only; omega⟩
  · rename_i h1 h2
    have h2 : (I i).ver = v := Classical.byContradiction fun z => h2 z
    have := h i
    refine ⟨fun k => ?_, by simp only; omega⟩
    simp only
    split
    · simp only; omega
    · exact hw k
theorem leGrant_bd {L : Les} {n : Nat} (h1 : 0 ≤ L.tok ∧ L.tok ≤ (n : Int)) (h2 : ∀ k x, L.m k = some x → 0 ≤ x.un ∧ x.un ≤ 1099512627776 ∧ 0 ≤ x.tk ∧ x.tk ≤ (n : Int)) (i cl now tk : Int) :
    (0 ≤ (leGrant L i cl now tk).1.tok ∧ (leGrant L i cl now tk).1.tok ≤ ((n + 1 : Nat) : Int)) ∧ (∀ k x, (leGrant L i cl now tk).1.m k = some x → 0 ≤ x.un ∧ x.un ≤ 1099512627776 ∧ 0 ≤ x.tk ∧ x.tk ≤ ((n + 1 : Nat) : Int)) ∧
      okI (leGrant L i cl now tk).2.1.tk ∧ okI (leGrant L i cl now tk).2.1.un ∨ 1000000 < n := by
  by_cases hn : 1000000 < n
  · exact .inr hn
  left
  have hw : ∀ k x, L.m k = some x → 0 ≤ x.un ∧ x.un ≤ 1099512627776 ∧ 0 ≤ x.tk ∧ x.tk ≤ ((n + 1 : Nat) : Int) := fun k x hx => by have := h2 k x hx; omega
  have hz : okI 0 := ⟨by decide, by decide⟩
  unfold leGrant
  split
  · exact ⟨by simp only; omega, hw, hz, hz⟩
  rename_i hm
  have hm : mayLe i cl now tk = true := by simpa using hm
  have hmi : 1 ≤ i ∧ i < 256 ∧ 0 ≤ cl ∧ cl < 16 ∧ 0 ≤ now ∧ now ≤ 1099511627776 ∧ 1 ≤ tk ∧ tk ≤ 1000000 := by simpa [mayLe] using hm
  obtain ⟨x, hx⟩ : ∃ x, x = (L.m i).getD lease0 := ⟨_, rfl⟩
  have hxb : 0 ≤ x.un ∧ x.un ≤ 1099512627776 ∧ 0 ≤ x.tk ∧ x.tk ≤ (n : Int) := by
    rw [hx]
    cases hq : L.m i with
    | none => simp [lease0]
    | some y => exact h2 i y hq
  simp only [← hx]
  split
  · refine ⟨by simp only; omega, fun k y hy => ?_, okI_of (by simp only; omega) (by simp only; omega), okI_of (by simp only; omega) (by simp only; omega)⟩
    simp only [lePut] at hy
    split at hy
    · simp only [Option.some.injEq] at hy
      subst hy
      simp only; omega
    · exact hw k y hy
  · split
    · exact ⟨by simp only; omega, hw, hz, hz⟩
    · have hu : ∀ u, u = (if x.un < now + tk then now + tk else x.un) → 0 ≤ u ∧ u ≤ 1099512627776 := fun u hu => by rw [hu]; split <;> omega
      refine ⟨by simp only; omega, fun k y hy => ?_, okI_of (by simp only; omega) (by simp only; omega), okI_of (by have := hu _ rfl; simp only; omega) (by have := hu _ rfl; simp only; omega)⟩
      simp only [lePut] at hy
      split at hy
      · simp only [Option.some.injEq] at hy
        subst hy
        have := hu _ rfl
        simp only; omega
      · exact hw k y hy
theorem leDrop_bd {L : Les} {n : Nat} (h1 : 0 ≤ L.tok ∧ L.tok ≤ (n : Int)) (h2 : ∀ k x, L.m k = some x → 0 ≤ x.un ∧ x.un ≤ 1099512627776 ∧ 0 ≤ x.tk ∧ x.tk ≤ (n : Int)) (i cl tk : Int) :
    (leDrop L i cl tk).1.tok = L.tok ∧ ∀ k x, (leDrop L i cl tk).1.m k = some x → L.m k = some x := by
  unfold leDrop
  repeat' split
  · exact ⟨rfl, fun _ _ h => h⟩
  · refine ⟨rfl, fun k x hx => ?_⟩
    simp only [leDel] at hx
    split at hx
    · cases hx
    · exact hx
  · exact ⟨rfl, fun _ _ h => h⟩

theorem Bnd.does {n : Nat} {S : Mst} {x : Cmd} (h : Bnd n S) (hx : okX x) (hn : n ≤ 100000) : Bnd (n + 1) (mDoes S x).1 ∧ (∀ k ∈ (mDoes S x).2.1, okI k) ∧ 0 ≤ (mDoes S x).2.2 ∧ (mDoes S x).2.2 < 256 := by
  have h' := h.weak (Nat.le_succ n)
  have he := h.e
  have hel : ∀ e, 1 ≤ e ∧ e ≤ 2 + (n : Int) → okI e := fun e he => okI_of (by omega) (by omega)
  have hz : okI 0 := ⟨by decide, by decide⟩
  unfold mDoes
  repeat' split
  · have q := SBegin_len S.s x.cl S.g.e x.a S.g.L
    refine ⟨⟨h'.e, h'.ul, h'.uo, h'.i, h'.lt, h'.lu, ?_, h'.gg, h'.r, h'.us⟩, ?_, ?_⟩
    · have := h.sl; simp only [mBegin]; omega
    · intro k hk
      have := h.sl
      simp only [mBegin, List.mem_cons, List.not_mem_nil, or_false] at hk
      rcases hk with rfl | rfl
      · exact okI_of (by omega) (by omega)
      · exact hel _ (by omega)
    · simp only [mBegin, SBegin]
      repeat' split
      all_goals simp
  · unfold mCommit
    split
    · exact ⟨h', by simp, by simp⟩
    · refine ⟨⟨h'.e, ?_, ?_, h'.i, h'.lt, h'.lu, ?_, h'.gg, h'.r, ?_⟩, by simp, ?_⟩
      · simp only
        split
        · have := (addT_ok (x := ⟨x.a, lenS S x.a, lenS S x.a, 0⟩) h.uo).2
          have := h.ul
          omega
        · exact h'.ul
      · simp only
        split
        · exact (addT_ok (x := ⟨x.a, lenS S x.a, lenS S x.a, 0⟩) h.uo).1
        · exact h'.uo
      · simp only [SCommit_len]; exact h'.sl
      · simp only
        split
        · exact addT_sorted h.us
        · exact h.us
      · simp only [SCommit]
        repeat' split
        all_goals simp
  · unfold mFree
    refine ⟨⟨h'.e, ?_, ?_, h'.i, h'.lt, h'.lu, ?_, h'.gg, h'.r, ?_⟩, by simp, ?_⟩
    · simp only
      split
      · have := (dropT_mem (L := S.u) (s := x.a)).2; have := h'.ul; omega
      · exact h'.ul
    · simp only
      split
      · exact fun y hy => h.uo y ((dropT_mem (L := S.u) (s := x.a)).1 y hy)
      · exact h'.uo
    · simp only [SFree_len]; exact h'.sl
    · simp only
      split
      · exact dropT_sorted h.us _
      · exact h.us
    · simp only [SFree]
      repeat' split
      all_goals simp
  · unfold mMove
    split
    · exact ⟨h', by simp, by simp⟩
    split
    · exact ⟨h', by simp, by simp⟩
    have q := imMove_bd h.i x.a x.b ⟨x.c, x.d, x.e, 0⟩
    refine ⟨⟨h'.e, ?_, ?_, q.1, h'.lt, h'.lu, h'.sl, h'.gg, h'.r, ?_⟩, ?_, ?_⟩
    · simp only
      split
      · rw [(deadT_ok h.us h.uo).2.2]; exact h'.ul
      · exact h'.ul
    · simp only
      split
      · exact (deadT_ok h.us h.uo).2.1
      · exact h.uo
    · simp only
      split
      · exact (deadT_ok h.us h.uo).1
      · exact h.us
    · intro k hk
      simp only [List.mem_cons, List.not_mem_nil, or_false] at hk
      subst hk
      exact okI_of (by omega) (by omega)
    · simp only [imMove]
      repeat' split
      all_goals simp
  · have q := fail_e S.g x.a x.b
    refine ⟨⟨?_, h'.ul, h'.uo, h'.i, h'.lt, h'.lu, h'.sl, ?_, h'.r, h'.us⟩, ?_, ?_⟩
    · simp only [mFail]; omega
    · refine ⟨?_, ?_⟩
      · simp only [mFail]; split
        · exact hx.a
        · exact h.gg.1
      · simp only [mFail, fail_S]; exact h.gg.2
    · intro k hk
      simp only [mFail, List.mem_cons, List.not_mem_nil, or_false] at hk
      subst hk
      exact hel _ (by omega)
    · simp only [mFail, Mem.fail]
      repeat' split
      all_goals simp
  · unfold mSwap
    have q := swap_e S.g x.a
    have q2 := swap_S S.g x.a
    have hgg : okI S.gone ∧ ∀ y ∈ (S.g.swap x.a).1.S, 0 ≤ y ∧ y < 64 := ⟨h.gg.1, fun y hy => h.gg.2 y (q2.1 y hy)⟩
    split
    · refine ⟨⟨?_, h'.ul, h'.uo, h'.i, h'.lt, h'.lu, h'.sl, hgg, h'.r, h'.us⟩, by simp, ?_⟩
      · simp only; omega
      · simp only [Mem.swap]
        repeat' split
        all_goals simp
    · refine ⟨⟨?_, h'.ul, h'.uo, h'.i, h'.lt, h'.lu, ?_, hgg, h'.r, h'.us⟩, ?_, by simp⟩
      · simp only; omega
      · simp only [mvAll_len]; exact h'.sl
      · intro k hk
        simp only [List.mem_cons, List.not_mem_nil, or_false] at hk
        rcases hk with rfl | rfl
        · rcases q2.2 with e | e
          · rw [e]; exact hz
          · have := h.gg.2 _ e; exact okI_of (by omega) (by omega)
        · exact hel _ (by omega)
  · have q := done_e S.g x.a
    refine ⟨⟨?_, h'.ul, h'.uo, h'.i, h'.lt, h'.lu, h'.sl, ?_, h'.r, h'.us⟩, ?_, ?_⟩
    · simp only [mClose]; omega
    · simp only [mClose, done_S]; exact h.gg
    · intro k hk
      simp only [mClose, List.mem_cons, List.not_mem_nil, or_false] at hk
      subst hk
      exact hel _ (by omega)
    · simp only [mClose, Mem.done]
      repeat' split
      all_goals simp
  · have q := (leGrant_bd h.lt h.lu x.a x.cl x.b x.c).resolve_right (by omega)
    refine ⟨⟨h'.e, h'.ul, h'.uo, h'.i, q.1, q.2.1, h'.sl, h'.gg, h'.r, h'.us⟩, ?_, ?_⟩
    · intro k hk
      simp only [mGrant, List.mem_cons, List.not_mem_nil, or_false] at hk
      rcases hk with rfl | rfl
      · exact q.2.2.1
      · exact q.2.2.2
    · simp only [mGrant, leGrant]
      repeat' split
      all_goals simp
  · have q := leDrop_bd h.lt h.lu x.a x.cl x.b
    refine ⟨⟨h'.e, h'.ul, h'.uo, h'.i, ?_, fun k y hy => h'.lu k y (q.2 k y hy), h'.sl, h'.gg, h'.r, h'.us⟩, by simp [mDrop], ?_⟩
    · simp only [mDrop, q.1]; exact h'.lt
    · simp only [mDrop, leDrop]
      repeat' split
      all_goals simp
theorem ansB_len {l : List Int} {e : Int} (hl : ∀ n ∈ l, okI n) (hn : l.length ≤ 2) : (ansB l e).length ≤ 4096 := by
  have hl' : ∀ n ∈ ansL l e, okI n := fun n hn => by unfold ansL at hn; split at hn; exact hl n hn; cases hn
  have hn' : (ansL l e).length ≤ 2 := by unfold ansL; split; exact hn; simp
  have s2 := encI_len (n := ((ansL l e).length : Int)) (by omega) (by omega)
  have s1 := encInts_short hl'
  simp only [ansB, List.length_cons, List.length_append]; omega
theorem Bnd.do {n : Nat} {S : Mst} {s : List UInt8} (h : Bnd n S) (hn : n ≤ 100000) : Bnd (n + 1) (mDo S s).1 := by
  have h' := h.weak (Nat.le_succ n)
  unfold mDo
  cases hd : decC s with
  | none => exact h'
  | some x =>
    simp only [mDoC]
    split
    · exact h'
    split
    · exact h'
    have hx := (decC_some hd).2.1
    have q : Bnd n { S with r := (taE S.r x.cl x.sq).1 } := ⟨h.e, h.ul, h.uo, h.i, h.lt, h.lu, h.sl, h.gg, h.r.ta _ _, h.us⟩
    have q2 := (q.does hx hn).1
    exact ⟨q2.e, q2.ul, q2.uo, q2.i, q2.lt, q2.lu, q2.sl, q2.gg, q2.r.pu _ _ _, q2.us⟩
/-- What was done is told again, and done no more. -/
theorem mDo_again {n : Nat} {S : Mst} (h : Bnd n S) (hn : n ≤ 100000) (s : List UInt8) : mDo (mDo S s).1 s = mDo S s := by
  unfold mDo
  cases hd : decC s with
  | none => rfl
  | some x =>
    simp only
    obtain ⟨-, hx, hc⟩ := decC_some hd
    by_cases h2 : (taE S.r x.cl x.sq).2.1 = 2
    · have e : mDoC S x = (S, (taE S.r x.cl x.sq).2.2) := by unfold mDoC; rw [if_pos h2]
      rw [e]; exact e
    by_cases h1 : (taE S.r x.cl x.sq).2.1 = 1
    · obtain ⟨y, hy⟩ : ∃ y, y = mDoes { S with r := (taE S.r x.cl x.sq).1 } x := ⟨_, rfl⟩
      have q : Bnd n { S with r := (taE S.r x.cl x.sq).1 } := ⟨h.e, h.ul, h.uo, h.i, h.lt, h.lu, h.sl, h.gg, h.r.ta _ _, h.us⟩
      have q2 := q.does hx hn
      have hl := ans_len { S with r := (taE S.r x.cl x.sq).1 } x
      have hr := mDoes_r { S with r := (taE S.r x.cl x.sq).1 } x
      rw [← hy] at q2 hl hr
      simp only at hr
      have e : mDoC S x = ({ y.1 with r := (puE y.1.r x.cl x.sq (ansB y.2.1 y.2.2)).1 }, ansB y.2.1 y.2.2) := by
        unfold mDoC
        rw [if_neg h2, if_neg (by simp [h1]), ← hy]
      rw [e]
      have ag := ta_again h.r h1 (re := ansB y.2.1 y.2.2) (ansB_len q2.2.1 hl)
      rw [hr]
      unfold mDoC
      simp only
      rw [ag]
      rw [if_pos rfl]
    · have e : mDoC S x = (S, ansB [] 16) := by unfold mDoC; rw [if_neg h2, if_pos (by simpa using h1)]
      rw [e]; exact e
end Go.Proofs.YtndndcdblfejnaaGreatRI
