/- PRINTED by gen.py (this session's own): the intermediate form of some functions, and a context's having them. / PRINTED by gen.py (this session's own): the intermediate form of some functions, and a context's having them. / Ballots: what each function computes, first part. / Ballots: quorums. / PRINTED by gen.py (this session's own): the intermediate form of some functions, and a context's having them. / Ballots: the greatest, the next one. -/
import Derived.Test.YtpbbjfighohokaaIdealY
namespace Go.Proofs.YtpbbjfighohokaaI
set_option linter.unusedSimpArgs false
set_option linter.unusedVariables false
open Go

/-- cmp.isNaN[int] -/
abbrev n_cmp_isNaN_int : Nat := 1
/-- cmp.Compare[int] -/
abbrev n_cmp_Compare_int : Nat := 2
/-- cmp.Or[int] -/
abbrev n_cmp_Or_int : Nat := 3
/-- hurdle/ballot.Cmp -/
abbrev n_ballot_Cmp : Nat := 4
/-- hurdle/ballot.Valid -/
abbrev n_ballot_Valid : Nat := 5
/-- cmp.isNaN[int] -/
def c_cmp_isNaN_int (F : Nat → FuncId) (Ty : Nat → TypeId) : IFunc := ⟨6, [.tmp 2],
 .seq (.ops [⟨some 2, .move (.const (.bool false)), none⟩])
 (.seq (.ops [⟨some 3, .move (.tmp 0), none⟩,
 ⟨some 4, .move (.tmp 0), none⟩,
 ⟨some 5, .bin .neq (.tmp 3) (.tmp 4), none⟩,
 ⟨some 2, .move (.tmp 5), none⟩])
 (.ret))⟩
/-- cmp.Compare[int] -/
def c_cmp_Compare_int (F : Nat → FuncId) (Ty : Nat → TypeId) : IFunc := ⟨20, [.tmp 4],
 .seq (.ops [⟨some 4, .move (.const (.int .i64 0)), none⟩])
 (.seq (.ops [⟨some 7, .move (.tmp 0), none⟩,
 ⟨some 8, .call (F 1) [.tmp 7], none⟩,
 ⟨some 5, .move (.tmp 8), none⟩])
 (.seq (.ops [⟨some 9, .move (.tmp 1), none⟩,
 ⟨some 10, .call (F 1) [.tmp 9], none⟩,
 ⟨some 6, .move (.tmp 10), none⟩])
 (.seq (.seq (.ops [⟨some 11, .move (.tmp 5), none⟩])
 (.cond (.tmp 11)
 (.seq (.seq (.ops [⟨some 12, .move (.tmp 6), none⟩])
 (.cond (.tmp 12)
 (.seq (.ops [⟨some 4, .move (.const (.int .i64 0)), none⟩])
 (.ret))
 (.skip)))
 (.seq (.ops [⟨some 4, .move (.const (.int .i64 (-1))), none⟩])
 (.ret)))
 (.skip)))
 (.seq (.seq (.ops [⟨some 13, .move (.tmp 6), none⟩])
 (.cond (.tmp 13)
 (.seq (.ops [⟨some 4, .move (.const (.int .i64 1)), none⟩])
 (.ret))
 (.skip)))
 (.seq (.seq (.ops [⟨some 14, .move (.tmp 0), none⟩,
 ⟨some 15, .move (.tmp 1), none⟩,
 ⟨some 16, .bin .lss (.tmp 14) (.tmp 15), none⟩])
 (.cond (.tmp 16)
 (.seq (.ops [⟨some 4, .move (.const (.int .i64 (-1))), none⟩])
 (.ret))
 (.skip)))
 (.seq (.seq (.ops [⟨some 17, .move (.tmp 0), none⟩,
 ⟨some 18, .move (.tmp 1), none⟩,
 ⟨some 19, .bin .gtr (.tmp 17) (.tmp 18), none⟩])
 (.cond (.tmp 19)
 (.seq (.ops [⟨some 4, .move (.const (.int .i64 1)), none⟩])
 (.ret))
 (.skip)))
 (.seq (.ops [⟨some 4, .move (.const (.int .i64 0)), none⟩])
 (.ret))))))))⟩
/-- cmp.Or[int] -/
def c_cmp_Or_int (F : Nat → FuncId) (Ty : Nat → TypeId) : IFunc := ⟨18, [.tmp 2],
 .seq (.ops [⟨some 2, .move (.const (.int .i64 0)), none⟩])
 (.seq (.ops [⟨some 3, .move (.const (.int .i64 0)), none⟩])
 (.seq (.seq (.ops [⟨some 6, .move (.tmp 0), none⟩,
 ⟨some 7, .lenSl (.tmp 6), none⟩,
 ⟨some 8, .move (.const (.int .i64 0)), none⟩])
 (.block 0 (.loop (.seq (.ops [⟨some 9, .bin .lss (.tmp 8) (.tmp 7), none⟩])
 (.seq (.cond (.tmp 9)
 (.skip)
 (.exit 0))
 (.seq (.block 1 (.seq (.ops [⟨some 10, .idxSl 1 (.tmp 6) (.tmp 8), none⟩,
 ⟨some 11, .load1 (.tmp 10), none⟩,
 ⟨some 5, .move (.tmp 11), none⟩])
 (.seq (.ops [⟨some 12, .move (.tmp 5), none⟩,
 ⟨some 13, .move (.tmp 3), none⟩,
 ⟨some 14, .bin .neq (.tmp 12) (.tmp 13), none⟩])
 (.cond (.tmp 14)
 (.seq (.ops [⟨some 15, .move (.tmp 5), none⟩,
 ⟨some 2, .move (.tmp 15), none⟩])
 (.ret))
 (.skip)))))
 (.ops [⟨some 16, .bin .add (.tmp 8) (.const (.int .i64 1)), none⟩,
 ⟨some 8, .move (.tmp 16), none⟩])))))))
 (.seq (.ops [⟨some 17, .move (.tmp 3), none⟩,
 ⟨some 2, .move (.tmp 17), none⟩])
 (.ret))))⟩
/-- hurdle/ballot.Cmp -/
def c_ballot_Cmp (F : Nat → FuncId) (Ty : Nat → TypeId) : IFunc := ⟨17, [.tmp 4],
 .seq (.ops [⟨some 2, .box (.tmp 0), none⟩,
 ⟨some 3, .box (.tmp 1), none⟩,
 ⟨some 4, .move (.const (.int .i64 0)), none⟩])
 (.seq (.draw [(⟨some 5, .fieldAddr 0 (.tmp 2), none⟩, []),
 (⟨some 6, .load1 (.tmp 5), none⟩, []),
 (⟨some 7, .fieldAddr 0 (.tmp 3), none⟩, []),
 (⟨some 8, .load1 (.tmp 7), none⟩, []),
 (⟨some 10, .fieldAddr 1 (.tmp 2), none⟩, []),
 (⟨some 11, .load1 (.tmp 10), none⟩, []),
 (⟨some 12, .fieldAddr 1 (.tmp 3), none⟩, []),
 (⟨some 13, .load1 (.tmp 12), none⟩, []),
 (⟨some 9, .call (F 2) [.tmp 6, .tmp 8], none⟩, [⟨some 11, .load1 (.tmp 10), none⟩, ⟨some 13, .load1 (.tmp 12), none⟩]),
 (⟨some 14, .call (F 2) [.tmp 11, .tmp 13], none⟩, []),
 (⟨some 15, .buildSlice 2 [.int .i64 0, .int .i64 0] [((0, 1), .tmp 9), ((1, 1), .tmp 14)], none⟩, []),
 (⟨some 16, .call (F 3) [.tmp 15], none⟩, []),
 (⟨some 4, .move (.tmp 16), none⟩, [])])
 (.ret))⟩
/-- hurdle/ballot.Valid -/
def c_ballot_Valid (F : Nat → FuncId) (Ty : Nat → TypeId) : IFunc := ⟨21, [.tmp 2],
 .seq (.ops [⟨some 1, .box (.tmp 0), none⟩,
 ⟨some 2, .move (.const (.bool false)), none⟩])
 (.seq (.ops [⟨some 3, .fieldAddr 0 (.tmp 1), none⟩,
 ⟨some 4, .load1 (.tmp 3), none⟩,
 ⟨some 5, .bin .geq (.tmp 4) (.const (.int .i64 0)), none⟩,
 ⟨some 6, .move (.tmp 5), none⟩,
 ⟨some 7, .fieldAddr 0 (.tmp 1), some (6, true)⟩,
 ⟨some 8, .load1 (.tmp 7), some (6, true)⟩,
 ⟨some 9, .bin .lss (.tmp 8) (.const (.int .i64 2147483648)), some (6, true)⟩,
 ⟨some 10, .pick (.tmp 6) (.tmp 9) (.const (.bool false)), none⟩,
 ⟨some 11, .move (.tmp 10), none⟩,
 ⟨some 12, .fieldAddr 1 (.tmp 1), some (11, true)⟩,
 ⟨some 13, .load1 (.tmp 12), some (11, true)⟩,
 ⟨some 14, .bin .geq (.tmp 13) (.const (.int .i64 0)), some (11, true)⟩,
 ⟨some 15, .pick (.tmp 11) (.tmp 14) (.const (.bool false)), none⟩,
 ⟨some 16, .move (.tmp 15), none⟩,
 ⟨some 17, .fieldAddr 1 (.tmp 1), some (16, true)⟩,
 ⟨some 18, .load1 (.tmp 17), some (16, true)⟩,
 ⟨some 19, .bin .lss (.tmp 18) (.const (.int .i64 7)), some (16, true)⟩,
 ⟨some 20, .pick (.tmp 16) (.tmp 19) (.const (.bool false)), none⟩,
 ⟨some 2, .move (.tmp 20), none⟩])
 (.ret))⟩
/-- A context has these functions. -/
structure HasBalA (c : Ctx) : Prop where
 cmp_isNaN_int : c.IP (c.F 1) = some (c_cmp_isNaN_int c.F c.Ty)
 cmp_Compare_int : c.IP (c.F 2) = some (c_cmp_Compare_int c.F c.Ty)
 cmp_Or_int : c.IP (c.F 3) = some (c_cmp_Or_int c.F c.Ty)
 ballot_Cmp : c.IP (c.F 4) = some (c_ballot_Cmp c.F c.Ty)
 ballot_Valid : c.IP (c.F 5) = some (c_ballot_Valid c.F c.Ty)

end Go.Proofs.YtpbbjfighohokaaI
namespace Go.Proofs.YtpbbjfighohokaaI
set_option linter.unusedSimpArgs false
set_option linter.unusedVariables false
open Go

/-- hurdle/ballot.Quorum -/
abbrev n_ballot_Quorum : Nat := 7
/-- hurdle/hurdleref16.Quorum -/
abbrev n_hurdleref16_Quorum : Nat := 18
/-- hurdle/ballot.Quorum -/
def c_ballot_Quorum (F : Nat → FuncId) (Ty : Nat → TypeId) : IFunc := ⟨12, [.tmp 2],
 .seq (.ops [⟨some 2, .move (.const (.int .i64 0)), none⟩])
 (.seq (.seq (.ops [⟨some 3, .move (.tmp 0), none⟩,
 ⟨some 4, .bin .lss (.tmp 3) (.const (.int .i64 1)), none⟩,
 ⟨some 5, .move (.tmp 4), none⟩,
 ⟨some 6, .move (.tmp 0), some (5, false)⟩,
 ⟨some 7, .bin .gtr (.tmp 6) (.const (.int .i64 7)), some (5, false)⟩,
 ⟨some 8, .pick (.tmp 5) (.const (.bool true)) (.tmp 7), none⟩])
 (.cond (.tmp 8)
 (.seq (.ops [⟨some 2, .move (.const (.int .i64 0)), none⟩])
 (.ret))
 (.skip)))
 (.seq (.ops [⟨some 9, .move (.tmp 0), none⟩,
 ⟨some 10, .bin .quo (.tmp 9) (.const (.int .i64 2)), none⟩,
 ⟨some 11, .bin .add (.tmp 10) (.const (.int .i64 1)), none⟩,
 ⟨some 2, .move (.tmp 11), none⟩])
 (.ret)))⟩
/-- hurdle/hurdleref16.Quorum -/
def c_hurdleref16_Quorum (F : Nat → FuncId) (Ty : Nat → TypeId) : IFunc := ⟨12, [.tmp 2],
 .seq (.ops [⟨some 2, .move (.const (.int .i64 0)), none⟩])
 (.seq (.seq (.ops [⟨some 3, .move (.tmp 0), none⟩,
 ⟨some 4, .bin .lss (.tmp 3) (.const (.int .i64 1)), none⟩,
 ⟨some 5, .move (.tmp 4), none⟩,
 ⟨some 6, .move (.tmp 0), some (5, false)⟩,
 ⟨some 7, .bin .gtr (.tmp 6) (.const (.int .i64 7)), some (5, false)⟩,
 ⟨some 8, .pick (.tmp 5) (.const (.bool true)) (.tmp 7), none⟩])
 (.cond (.tmp 8)
 (.seq (.ops [⟨some 2, .move (.const (.int .i64 0)), none⟩])
 (.ret))
 (.skip)))
 (.seq (.ops [⟨some 9, .move (.tmp 0), none⟩,
 ⟨some 10, .bin .quo (.tmp 9) (.const (.int .i64 2)), none⟩,
 ⟨some 11, .bin .add (.tmp 10) (.const (.int .i64 1)), none⟩,
 ⟨some 2, .move (.tmp 11), none⟩])
 (.ret)))⟩
/-- A context has these functions. -/
structure HasBalB (c : Ctx) : Prop where
 ballot_Quorum : c.IP (c.F 7) = some (c_ballot_Quorum c.F c.Ty)
 hurdleref16_Quorum : c.IP (c.F 18) = some (c_hurdleref16_Quorum c.F c.Ty)

end Go.Proofs.YtpbbjfighohokaaI
namespace Go.Proofs.YtpbbjfighohokaaI
attribute [local simp] J0 J1 J2 J3 J4 J5 J6 J7 J8 J9 Ja Jb Jc Jd Je Jf Jg Jh Ji Jj Jk Jl Jm Jn Jo Jp Jq Jr Js Jt Ju Jv Jw Jx Jy Jz JA JB JC JD JE JF JG JH JI JJ JK JL JM JN JO JP JQ JR JS stillI IOp.kind JT JU JV JW JX JY JZ Y0 Y1 Y2 Y3 Y4 Y5 Y6 Y7 Y8 Y9 Ya Yb Yc Yd Ye Yf Yg Yh Yi Yj Yk Yl Ym Yn Yo Yp Yq ial Yr Ys Yt Yu Yv Yw Yx Yy ires iresL ires1 Yz YA YB YC YD YE bin2 YF YG YH YI YJ YK YL YM YN YO YP YQ YR YS YT YU un1 shOk eqL eq1 fillL putAt IHeap.load1 IHeap.loadL IHeap.storeL YV YW YX YY YZ B0 B1 B2 B3 B4 B5 B6 B7 B8 B9 Ba Bb Bc Bd Be Bf Bg Bh Bi Bj Bk Bl Bm Bn Bo Bp
set_option linter.unusedSimpArgs false
set_option linter.unusedVariables false
open Go

def cmpI (a b : Int) : Int := if a < b then -1 else if b < a then 1 else 0
def cmpB (a n b m : Int) : Int := if cmpI a b = 0 then cmpI n m else cmpI a b
def validB (a n : Int) : Bool := decide (0 ≤ a ∧ a < 2147483648 ∧ 0 ≤ n ∧ n < 7)
def nextB (a node : Int) : Int × Int := if a < 0 ∨ 2147483647 ≤ a then (0, 0) else (a + 1, if 6 < (if 0 > node then 0 else node) then 6 else (if 0 > node then 0 else node))
def quorumI (n : Int) : Int := if n < 1 ∨ 7 < n then 0 else n.tdiv 2 + 1
def vB (a n : Int) : Value := .agg #[.int .i64 a, .int .i64 n]

section
variable (c : Ctx) (hc : HasBalA c) {H : IHeap} {K : Value → IHeap → Prop}
include hc

theorem isNaN_ok {a : Int} (hK : K (.bool false) H) : c.C (c.F n_cmp_isNaN_int) [.int .i64 a] H K := by
  refine c.enter hc.cmp_isNaN_int rfl ?_
  simp -implicitDefEqProofs [c_cmp_isNaN_int]
  exact hK

theorem Compare_ok {a b : Int} (hK : K (.int .i64 (cmpI a b)) H) : c.C (c.F n_cmp_Compare_int) [.int .i64 a, .int .i64 b] H K := by
  refine c.enter hc.cmp_Compare_int rfl ?_
  simp -implicitDefEqProofs [c_cmp_Compare_int]
  refine call_of (isNaN_ok c hc ?_)
  simp -implicitDefEqProofs []
  refine call_of (isNaN_ok c hc ?_)
  simp -implicitDefEqProofs []
  unfold cmpI at hK
  by_cases h1 : a < b
  · simp -implicitDefEqProofs [h1]
    simpa [h1] using hK
  · by_cases h2 : b < a
    · simp -implicitDefEqProofs [h1, h2]
      simpa [h1, h2] using hK
    · simp -implicitDefEqProofs [h1, h2]
      simpa [h1, h2] using hK

theorem Or_ok {a b : Int} {i : Nat} (hi : H.get i = some (.cells [.int .i64 a, .int .i64 b] false)) (hK : K (.int .i64 (if a = 0 then b else a)) H) :
    c.C (c.F n_cmp_Or_int) [.slice (some ⟨i, 0, none⟩) 2 2] H K := by
  refine c.enter hc.cmp_Or_int rfl ?_
  have w1 : IntKind.i64.wrap 1 = 1 := by decide
  have w2 : IntKind.i64.wrap 2 = 2 := by decide
  simp -implicitDefEqProofs [c_cmp_Or_int]
  refine loop_nat c.mono (fun n T H' => H' = H ∧ T 0 = .slice (some ⟨i, 0, none⟩) 2 2 ∧ T 3 = .int .i64 0 ∧ T 6 = .slice (some ⟨i, 0, none⟩) 2 2 ∧ T 7 = .int .i64 2 ∧ ((n = 2 ∧ T 8 = .int .i64 0) ∨ (n = 1 ∧ T 8 = .int .i64 1 ∧ a = 0) ∨ (n = 0 ∧ T 8 = .int .i64 2 ∧ a = 0 ∧ b = 0))) 2 ?_ ?_
  · simp -implicitDefEqProofs []
  · rintro n T H' ⟨rfl, h0, h3, h6, h7, ⟨rfl, h8⟩ | ⟨rfl, h8, rfl⟩ | ⟨rfl, h8, rfl, rfl⟩⟩
    · by_cases ha : a = 0
      · subst ha
        simp -implicitDefEqProofs [h0, h3, h6, h7, h8, hi]
        exact ⟨1, by omega, .inr (.inl ⟨rfl, w1⟩)⟩
      · simp -implicitDefEqProofs [h0, h3, h6, h7, h8, hi, ha]
        simpa [ha] using hK
    · by_cases hb : b = 0
      · subst hb
        simp -implicitDefEqProofs [h0, h3, h6, h7, h8, hi]
        exact w2
      · simp -implicitDefEqProofs [h0, h3, h6, h7, h8, hi, hb]
        simpa [hb] using hK
    · simp -implicitDefEqProofs [h0, h3, h6, h7, h8, hi]
      simpa using hK

theorem Cmp_ok {a n b m : Int} (hK : ∀ H', H.le H' → K (.int .i64 (cmpB a n b m)) H') :
    c.C (c.F n_ballot_Cmp) [vB a n, vB b m] H K := by
  refine c.enter hc.ballot_Cmp rfl ?_
  simp -implicitDefEqProofs [c_ballot_Cmp, vB]
  refine dcall_of c.mono (Compare_ok c hc ?_)
  simp -implicitDefEqProofs []
  refine dcall_of c.mono (Compare_ok c hc ?_)
  simp -implicitDefEqProofs []
  refine dcall_of c.mono (Or_ok c hc (a := cmpI a b) (b := cmpI n m) ?_ ?_)
  · simp -implicitDefEqProofs []
  · simp -implicitDefEqProofs []
    exact hK _ (by (repeat' first | exact IHeap.le_refl _ | assumption | apply IHeap.le.alloc | (refine IHeap.le.set ?_ (by (try simp only [YX, YY]); omega) _) | (refine IHeap.le.trans ?_ (by assumption))))

theorem Valid_ok {a n : Int} (hK : ∀ H', H.le H' → K (.bool (validB a n)) H') : c.C (c.F n_ballot_Valid) [vB a n] H K := by
  refine c.enter hc.ballot_Valid rfl ?_
  have hK' := hK (H.alloc (.cells [.int .i64 a, .int .i64 n] false)) (by (repeat' first | exact IHeap.le_refl _ | assumption | apply IHeap.le.alloc | (refine IHeap.le.set ?_ (by (try simp only [YX, YY]); omega) _) | (refine IHeap.le.trans ?_ (by assumption))))
  simp -implicitDefEqProofs [c_ballot_Valid, vB]
  unfold validB at hK'
  by_cases h1 : 0 ≤ a
  · by_cases h2 : a < 2147483648
    · by_cases h3 : 0 ≤ n
      · simp -implicitDefEqProofs [h1, h2, h3]
        simpa [h1, h2, h3] using hK'
      · simp -implicitDefEqProofs [h1, h2, h3]
        simpa [h1, h2, h3] using hK'
    · simp -implicitDefEqProofs [h1, h2]
      simpa [h1, h2] using hK'
  · simp -implicitDefEqProofs [h1]
    simpa [h1] using hK'

end
end Go.Proofs.YtpbbjfighohokaaI
namespace Go.Proofs.YtpbbjfighohokaaI
attribute [local simp] J0 J1 J2 J3 J4 J5 J6 J7 J8 J9 Ja Jb Jc Jd Je Jf Jg Jh Ji Jj Jk Jl Jm Jn Jo Jp Jq Jr Js Jt Ju Jv Jw Jx Jy Jz JA JB JC JD JE JF JG JH JI JJ JK JL JM JN JO JP JQ JR JS stillI IOp.kind JT JU JV JW JX JY JZ Y0 Y1 Y2 Y3 Y4 Y5 Y6 Y7 Y8 Y9 Ya Yb Yc Yd Ye Yf Yg Yh Yi Yj Yk Yl Ym Yn Yo Yp Yq ial Yr Ys Yt Yu Yv Yw Yx Yy ires iresL ires1 Yz YA YB YC YD YE bin2 YF YG YH YI YJ YK YL YM YN YO YP YQ YR YS YT YU un1 shOk eqL eq1 fillL putAt IHeap.load1 IHeap.loadL IHeap.storeL YV YW YX YY YZ B0 B1 B2 B3 B4 B5 B6 B7 B8 B9 Ba Bb Bc Bd Be Bf Bg Bh Bi Bj Bk Bl Bm Bn Bo Bp
set_option linter.unusedSimpArgs false
set_option linter.unusedVariables false
open Go

section
variable (c : Ctx) (hc : HasBalB c) {H : IHeap} {K : Value → IHeap → Prop}
include hc

theorem Quorum_ok {n : Int} (hK : K (.int .i64 (quorumI n)) H) : c.C (c.F n_ballot_Quorum) [.int .i64 n] H K := by
  refine c.enter hc.ballot_Quorum rfl ?_
  simp -implicitDefEqProofs [c_ballot_Quorum]
  unfold quorumI at hK
  by_cases h1 : n < 1
  · simp -implicitDefEqProofs [h1]
    simpa [h1] using hK
  · by_cases h2 : 7 < n
    · simp -implicitDefEqProofs [h1, h2]
      simpa [h1, h2] using hK
    · have h0 : n.tdiv 2 = n / 2 := Int.tdiv_eq_ediv_of_nonneg (by omega)
      have h3 : IntKind.i64.wrap (n.tdiv 2) = n.tdiv 2 := wrap64 (by omega) (by omega)
      have h4 : IntKind.i64.wrap (n.tdiv 2 + 1) = n.tdiv 2 + 1 := wrap64 (by omega) (by omega)
      simp -implicitDefEqProofs [h1, h2, h3, h4]
      simpa [h1, h2] using hK

theorem refQuorum_ok {n : Int} (hK : K (.int .i64 (quorumI n)) H) : c.C (c.F n_hurdleref16_Quorum) [.int .i64 n] H K := by
  refine c.enter hc.hurdleref16_Quorum rfl ?_
  simp -implicitDefEqProofs [c_hurdleref16_Quorum]
  unfold quorumI at hK
  by_cases h1 : n < 1
  · simp -implicitDefEqProofs [h1]
    simpa [h1] using hK
  · by_cases h2 : 7 < n
    · simp -implicitDefEqProofs [h1, h2]
      simpa [h1, h2] using hK
    · have h0 : n.tdiv 2 = n / 2 := Int.tdiv_eq_ediv_of_nonneg (by omega)
      have h3 : IntKind.i64.wrap (n.tdiv 2) = n.tdiv 2 := wrap64 (by omega) (by omega)
      have h4 : IntKind.i64.wrap (n.tdiv 2 + 1) = n.tdiv 2 + 1 := wrap64 (by omega) (by omega)
      simp -implicitDefEqProofs [h1, h2, h3, h4]
      simpa [h1, h2] using hK

end
end Go.Proofs.YtpbbjfighohokaaI
namespace Go.Proofs.YtpbbjfighohokaaI
set_option linter.unusedSimpArgs false
set_option linter.unusedVariables false
open Go

/-- hurdle/ballot.Next -/
abbrev n_ballot_Next : Nat := 6
/-- hurdle/ballot.Max -/
abbrev n_ballot_Max : Nat := 9
/-- hurdle/ballot.greatest -/
abbrev n_ballot_greatest : Nat := 8
/-- slices.MaxFunc[[]hurdle/api.Ballot,hurdle/api.Ballot] -/
abbrev n_slices_MaxFunc_api_Ballot_api_Ballot : Nat := 13
/-- hurdle/ballot.Next -/
def c_ballot_Next (F : Nat → FuncId) (Ty : Nat → TypeId) : IFunc := ⟨21, [.cellN 4 2],
 .seq (.ops [⟨some 2, .box (.tmp 0), none⟩,
 ⟨some 4, .alloc [.int .i64 0, .int .i64 0], none⟩])
 (.seq (.seq (.ops [⟨some 5, .fieldAddr 0 (.tmp 2), none⟩,
 ⟨some 6, .load1 (.tmp 5), none⟩,
 ⟨some 7, .bin .lss (.tmp 6) (.const (.int .i64 0)), none⟩,
 ⟨some 8, .move (.tmp 7), none⟩,
 ⟨some 9, .fieldAddr 0 (.tmp 2), some (8, false)⟩,
 ⟨some 10, .load1 (.tmp 9), some (8, false)⟩,
 ⟨some 11, .bin .geq (.tmp 10) (.const (.int .i64 2147483647)), some (8, false)⟩,
 ⟨some 12, .pick (.tmp 8) (.const (.bool true)) (.tmp 11), none⟩])
 (.cond (.tmp 12)
 (.seq (.ops [⟨some 13, .build [.int .i64 0, .int .i64 0] [], none⟩,
 ⟨none, .store 2 (.tmp 4) (.tmp 13), none⟩])
 (.ret))
 (.skip)))
 (.seq (.ops [⟨some 14, .fieldAddr 0 (.tmp 2), none⟩,
 ⟨some 15, .load1 (.tmp 14), none⟩,
 ⟨some 16, .bin .add (.tmp 15) (.const (.int .i64 1)), none⟩,
 ⟨some 17, .move (.tmp 1), none⟩,
 ⟨some 18, .mxn true (.tmp 17) (.const (.int .i64 0)), none⟩,
 ⟨some 19, .mxn false (.tmp 18) (.const (.int .i64 6)), none⟩,
 ⟨some 20, .build [.int .i64 0, .int .i64 0] [((0, 1), .tmp 16), ((1, 1), .tmp 19)], none⟩,
 ⟨none, .store 2 (.tmp 4) (.tmp 20), none⟩])
 (.ret)))⟩
/-- hurdle/ballot.Max -/
def c_ballot_Max (F : Nat → FuncId) (Ty : Nat → TypeId) : IFunc := ⟨9, [.cellN 2 2],
 .seq (.ops [⟨some 2, .alloc [.int .i64 0, .int .i64 0], none⟩])
 (.seq (.seq (.ops [⟨some 3, .move (.tmp 0), none⟩,
 ⟨some 4, .lenSl (.tmp 3), none⟩,
 ⟨some 5, .bin .eql (.tmp 4) (.const (.int .i64 0)), none⟩])
 (.cond (.tmp 5)
 (.seq (.ops [⟨some 6, .build [.int .i64 0, .int .i64 0] [], none⟩,
 ⟨none, .store 2 (.tmp 2) (.tmp 6), none⟩])
 (.ret))
 (.skip)))
 (.seq (.ops [⟨some 7, .move (.tmp 0), none⟩,
 ⟨some 8, .call (F 8) [.tmp 7], none⟩,
 ⟨none, .store 2 (.tmp 2) (.tmp 8), none⟩])
 (.ret)))⟩
/-- hurdle/ballot.greatest -/
def c_ballot_greatest (F : Nat → FuncId) (Ty : Nat → TypeId) : IFunc := ⟨5, [.cellN 2 2],
 .seq (.ops [⟨some 2, .alloc [.int .i64 0, .int .i64 0], none⟩])
 (.seq (.ops [⟨some 3, .move (.tmp 0), none⟩,
 ⟨some 4, .call (F 13) [.tmp 3, .func (F 4)], none⟩,
 ⟨none, .store 2 (.tmp 2) (.tmp 4), none⟩])
 (.ret))⟩
/-- slices.MaxFunc[[]hurdle/api.Ballot,hurdle/api.Ballot] -/
def c_slices_MaxFunc_api_Ballot_api_Ballot (F : Nat → FuncId) (Ty : Nat → TypeId) : IFunc := ⟨33, [.cellN 4 2],
 .seq (.ops [⟨some 4, .alloc [.int .i64 0, .int .i64 0], none⟩])
 (.seq (.seq (.ops [⟨some 7, .move (.tmp 0), none⟩,
 ⟨some 8, .lenSl (.tmp 7), none⟩,
 ⟨some 9, .bin .lss (.tmp 8) (.const (.int .i64 1)), none⟩])
 (.cond (.tmp 9)
 (.ops [⟨some 10, .mkIface (Ty 1) (.const (.string ⟨#[115, 108, 105, 99, 101, 115, 46, 77, 97, 120, 70, 117, 110, 99, 58, 32, 101, 109, 112, 116, 121, 32, 108, 105, 115, 116]⟩)), none⟩,
 ⟨none, .never, none⟩])
 (.skip)))
 (.seq (.ops [⟨some 11, .move (.tmp 0), none⟩,
 ⟨some 12, .idxSl 2 (.tmp 11) (.const (.int .i64 0)), none⟩,
 ⟨some 13, .loadN 2 (.tmp 12), none⟩,
 ⟨some 5, .alloc [.int .i64 0, .int .i64 0], none⟩,
 ⟨none, .store 2 (.tmp 5) (.tmp 13), none⟩])
 (.seq (.seq (.ops [⟨some 6, .move (.const (.int .i64 1)), none⟩])
 (.block 0 (.loop (.seq (.seq (.ops [⟨some 14, .move (.tmp 6), none⟩,
 ⟨some 15, .move (.tmp 0), none⟩,
 ⟨some 16, .lenSl (.tmp 15), none⟩,
 ⟨some 17, .bin .lss (.tmp 14) (.tmp 16), none⟩])
 (.cond (.tmp 17)
 (.skip)
 (.exit 0)))
 (.seq (.block 1 (.seq (.draw [(⟨some 20, .move (.tmp 1), none⟩, []),
 (⟨some 21, .move (.tmp 0), none⟩, []),
 (⟨some 22, .move (.tmp 6), none⟩, []),
 (⟨some 23, .idxSl 2 (.tmp 21) (.tmp 22), none⟩, []),
 (⟨some 24, .loadN 2 (.tmp 23), none⟩, []),
 (⟨some 25, .loadN 2 (.tmp 5), none⟩, []),
 (⟨some 26, .callDyn (.tmp 20) [.tmp 24, .tmp 25], none⟩, []),
 (⟨some 27, .bin .gtr (.tmp 26) (.const (.int .i64 0)), none⟩, [])])
 (.cond (.tmp 27)
 (.ops [⟨some 28, .move (.tmp 0), none⟩,
 ⟨some 29, .move (.tmp 6), none⟩,
 ⟨some 30, .idxSl 2 (.tmp 28) (.tmp 29), none⟩,
 ⟨some 31, .loadN 2 (.tmp 30), none⟩,
 ⟨none, .store 2 (.tmp 5) (.tmp 31), none⟩])
 (.skip))))
 (.ops [⟨some 18, .move (.tmp 6), none⟩,
 ⟨some 19, .bin .add (.tmp 18) (.const (.int .i64 1)), none⟩,
 ⟨some 6, .move (.tmp 19), none⟩]))))))
 (.seq (.ops [⟨some 32, .loadN 2 (.tmp 5), none⟩,
 ⟨none, .store 2 (.tmp 4) (.tmp 32), none⟩])
 (.ret)))))⟩
/-- A context has these functions. -/
structure HasBalD (c : Ctx) : Prop where
 ballot_Next : c.IP (c.F 6) = some (c_ballot_Next c.F c.Ty)
 ballot_Max : c.IP (c.F 9) = some (c_ballot_Max c.F c.Ty)
 ballot_greatest : c.IP (c.F 8) = some (c_ballot_greatest c.F c.Ty)
 slices_MaxFunc_api_Ballot_api_Ballot : c.IP (c.F 13) = some (c_slices_MaxFunc_api_Ballot_api_Ballot c.F c.Ty)

end Go.Proofs.YtpbbjfighohokaaI
namespace Go.Proofs.YtpbbjfighohokaaI
attribute [local simp] J0 J1 J2 J3 J4 J5 J6 J7 J8 J9 Ja Jb Jc Jd Je Jf Jg Jh Ji Jj Jk Jl Jm Jn Jo Jp Jq Jr Js Jt Ju Jv Jw Jx Jy Jz JA JB JC JD JE JF JG JH JI JJ JK JL JM JN JO JP JQ JR JS stillI IOp.kind JT JU JV JW JX JY JZ Y0 Y1 Y2 Y3 Y4 Y5 Y6 Y7 Y8 Y9 Ya Yb Yc Yd Ye Yf Yg Yh Yi Yj Yk Yl Ym Yn Yo Yp Yq ial Yr Ys Yt Yu Yv Yw Yx Yy ires iresL ires1 Yz YA YB YC YD YE bin2 YF YG YH YI YJ YK YL YM YN YO YP YQ YR YS YT YU un1 shOk eqL eq1 fillL putAt IHeap.load1 IHeap.loadL IHeap.storeL YV YW YX YY YZ B0 B1 B2 B3 B4 B5 B6 B7 B8 B9 Ba Bb Bc Bd Be Bf Bg Bh Bi Bj Bk Bl Bm Bn Bo Bp
set_option linter.unusedSimpArgs false
set_option linter.unusedVariables false
open Go

def rowB (b : Int × Int) : List Value := [.int .i64 b.1, .int .i64 b.2]
def cmpBB (x y : Int × Int) : Int := cmpB x.1 x.2 y.1 y.2
def maxBy {α : Type} (cmp : α → α → Int) : List α → α → α
  | [], m => m
  | r :: l, m => maxBy cmp l (if 0 < cmp r m then r else m)

theorem maxBy_append {α : Type} (cmp : α → α → Int) : ∀ (l l' : List α) (m : α), maxBy cmp (l ++ l') m = maxBy cmp l' (maxBy cmp l m)
  | [], _, _ => rfl
  | r :: l, l', m => maxBy_append cmp l l' _
theorem maxBy_take {α : Type} (cmp : α → α → Int) (l : List α) (m r : α) (i : Nat) (h : l[i]? = some r) : maxBy cmp (l.take (i + 1)) m = if 0 < cmp r (maxBy cmp (l.take i) m) then r else maxBy cmp (l.take i) m := by
  rw [List.take_add_one, h, maxBy_append]; rfl

def maxL (l : List (Int × Int)) : Int × Int := match l with
  | [] => (0, 0)
  | x :: l => maxBy cmpBB l x

section
variable (c : Ctx) (hA : HasBalA c) (hc : HasBalD c) {H : IHeap} {K : Value → IHeap → Prop}
include hc

theorem Next_ok {a n node : Int} (hK : ∀ H', H.le H' → K (vB (nextB a node).1 (nextB a node).2) H') : c.C (c.F n_ballot_Next) [vB a n, .int .i64 node] H K := by
  refine c.enter hc.ballot_Next rfl ?_
  simp -implicitDefEqProofs [c_ballot_Next, vB]
  unfold nextB vB at hK
  by_cases h1 : a < 0
  · simp -implicitDefEqProofs [h1]
    simp only [h1, true_or, if_true] at hK
    exact hK _ (by (repeat' first | exact IHeap.le_refl _ | assumption | apply IHeap.le.alloc | (refine IHeap.le.set ?_ (by (try simp only [YX, YY]); omega) _) | (refine IHeap.le.trans ?_ (by assumption))))
  · by_cases h2 : 2147483647 ≤ a
    · simp -implicitDefEqProofs [h1, h2]
      simp only [h1, h2, or_true, if_true] at hK
      exact hK _ (by (repeat' first | exact IHeap.le_refl _ | assumption | apply IHeap.le.alloc | (refine IHeap.le.set ?_ (by (try simp only [YX, YY]); omega) _) | (refine IHeap.le.trans ?_ (by assumption))))
    · have hw : IntKind.i64.wrap (a + 1) = a + 1 := wrap64 (by omega) (by omega)
      simp -implicitDefEqProofs [h1, h2, hw]
      simp only [h1, h2, or_self, if_false] at hK
      exact hK _ (by (repeat' first | exact IHeap.le_refl _ | assumption | apply IHeap.le.alloc | (refine IHeap.le.set ?_ (by (try simp only [YX, YY]); omega) _) | (refine IHeap.le.trans ?_ (by assumption))))

theorem MaxFuncB_ok {x : Int × Int} {l : List (Int × Int)} {v : Value} {g : FuncId} (hs : SlR H 2 v ((x :: l).map rowB)) (hl : l.length < 4611686018427387904)
    (hg : ∀ (p q : Int × Int) (H : IHeap) (K : Value → IHeap → Prop), (∀ H', H.le H' → K (.int .i64 (cmpBB p q)) H') → c.C g [vB p.1 p.2, vB q.1 q.2] H K)
    (hK : ∀ H', H.le H' → K (vB (maxBy cmpBB l x).1 (maxBy cmpBB l x).2) H') : c.C (c.F n_slices_MaxFunc_api_Ballot_api_Ballot) [v, .func (.func g) #[] #[]] H K := by
  refine c.enter hc.slices_MaxFunc_api_Ballot_api_Ballot rfl ?_
  obtain ⟨a, cap, rfl, h2⟩ := hs
  obtain ⟨b, o, cs, ro, rfl, hb, hget, hrow⟩ := h2 (by simp)
  have hlen : ((x :: l).map rowB).length = l.length + 1 := by simp
  rw [hlen]
  obtain ⟨_, r2, r3⟩ := hrow 0 (rowB x) (by simp)
  simp only [Nat.zero_mul, Nat.add_zero] at r2 r3
  have hbn : b ≠ H.next := by omega
  have hl1 : ¬ ((l.length : Int) + 1 < 1) := by omega
  have hl0 : (0 : Int) < (l.length : Int) + 1 := by omega
  simp -implicitDefEqProofs [c_slices_MaxFunc_api_Ballot_api_Ballot, hl1, hl0, hbn, hget, r2, r3, rowB]
  refine loop_nat c.mono (fun n T H' => ∃ (i : Nat) (m : Int × Int), i ≤ l.length ∧ n = l.length - i ∧ m = maxBy cmpBB (l.take i) x ∧ T 0 = .slice (some ⟨b, o, none⟩) (l.length + 1) cap ∧ T 1 = .func (.func g) #[] #[] ∧
    T 4 = .pointer (some ⟨H.next, 0, none⟩) ∧ T 5 = .pointer (some ⟨H.next + 1, 0, none⟩) ∧ T 6 = .int .i64 (i + 1) ∧ H.next + 2 ≤ H'.next ∧ (∀ k, k < H.next → H'.get k = H.get k) ∧
    H'.get H.next = some (.cells [.int .i64 0, .int .i64 0] false) ∧ H'.get (H.next + 1) = some (.cells (rowB m) false)) l.length ?_ ?_
  · refine ⟨0, x, by omega, rfl, rfl, ?_⟩
    simp -implicitDefEqProofs [rowB]
    intro k hk
    have e1 : k ≠ H.next := by omega
    have e2 : k ≠ H.next + 1 := by omega
    simp [e1, e2]
  · rintro n T H' ⟨i, m, hi, rfl, hm, t0, t1, t4, t5, t6, hn, hold, g4, g5⟩
    have hb' := hold b hb
    by_cases hil : i < l.length
    · have hc1 : (i : Int) + 1 < (l.length : Int) + 1 := by omega
      have hc0 : (0 : Int) ≤ (i : Int) + 1 := by omega
      have hct : ((i : Int) + 1).toNat = i + 1 := by omega
      obtain ⟨_, s2, s3⟩ := hrow (i + 1) (rowB l[i]) (by simp [hil])
      simp -implicitDefEqProofs [t0, t1, t4, t5, t6, hc1, hc0, hct, hb', hget, s2, s3, g5, rowB]
      refine dcall_of c.mono (hg l[i] m _ _ fun H1 h1 => ?_)
      have k5 := (h1.get (H.next + 1) (by omega)).trans g5
      have k4 := (h1.get H.next (by omega)).trans g4
      have kb := (h1.get b (by omega)).trans hb'
      have hw : IntKind.i64.wrap ((i : Int) + 1 + 1) = (i : Int) + 1 + 1 := wrap64 (by omega) (by omega)
      have hmt := maxBy_take cmpBB l x l[i] i (by simp [hil])
      rw [← hm] at hmt
      by_cases hcmp : 0 < cmpBB l[i] m
      · simp -implicitDefEqProofs [t0, t1, t4, t5, t6, hc1, hc0, hct, hb', hget, s2, s3, k5, k4, kb, rowB, hcmp, hw]
        refine ⟨l.length - (i + 1), by omega, i + 1, by omega, rfl, by simp, by have := h1.next; omega, fun k hk => ?_, ?_⟩
        · rw [if_neg (by omega), h1.get k (by omega), hold k hk]
        · rw [hmt, if_pos hcmp]; exact ⟨rfl, rfl⟩
      · simp -implicitDefEqProofs [t0, t1, t4, t5, t6, hc1, hc0, hct, hb', hget, s2, s3, k5, k4, kb, rowB, hcmp, hw]
        refine ⟨l.length - (i + 1), by omega, i + 1, by omega, rfl, by simp, by have := h1.next; omega, fun k hk => ?_, ?_⟩
        · rw [h1.get k (by omega), hold k hk]
        · rw [hmt, if_neg hcmp]; exact ⟨rfl, rfl⟩
    · have hie : i = l.length := by omega
      subst hie
      rw [List.take_length] at hm
      simp -implicitDefEqProofs [t0, t1, t4, t5, t6, g5, g4, rowB]
      rw [← hm] at hK
      refine hK _ ⟨by simp only [YY]; omega, fun k hk => ?_⟩
      rw [YW, if_neg (by omega)]; exact hold k hk

include hA
theorem greatest_ok {x : Int × Int} {l : List (Int × Int)} {v : Value} (hs : SlR H 2 v ((x :: l).map rowB)) (hl : l.length < 4611686018427387904) (hK : ∀ H', H.le H' → K (vB (maxBy cmpBB l x).1 (maxBy cmpBB l x).2) H') :
    c.C (c.F n_ballot_greatest) [v] H K := by
  refine c.enter hc.ballot_greatest rfl ?_
  simp -implicitDefEqProofs [c_ballot_greatest]
  refine call_of (MaxFuncB_ok c hc (hs.le (H.le_alloc _)) hl (fun p q H K h => Cmp_ok c hA h) fun H1 h1 => ?_)
  have k2 := (h1.get H.next (by simp [YX])).trans (alloc_get H _)
  simp -implicitDefEqProofs [k2, vB]
  refine hK _ ⟨by have := h1.next; simp only [YX] at this; simp only [YY]; omega, fun k hk => ?_⟩
  rw [YW, if_neg (by omega), h1.get k (by simp only [YX]; omega), YV, if_neg (by omega)]

theorem Max_ok {l : List (Int × Int)} {v : Value} (hs : SlR H 2 v (l.map rowB)) (hl : l.length < 4611686018427387904) (hK : ∀ H', H.le H' → K (vB (maxL l).1 (maxL l).2) H') : c.C (c.F n_ballot_Max) [v] H K := by
  refine c.enter hc.ballot_Max rfl ?_
  cases l with
  | nil =>
    obtain ⟨a, cap, rfl, _⟩ := hs
    simp -implicitDefEqProofs [c_ballot_Max]
    exact hK _ (by (repeat' first | exact IHeap.le_refl _ | assumption | apply IHeap.le.alloc | (refine IHeap.le.set ?_ (by (try simp only [YX, YY]); omega) _) | (refine IHeap.le.trans ?_ (by assumption))))
  | cons x l =>
    have hs' := hs
    obtain ⟨a, cap, rfl, _⟩ := hs
    have h0 : ((l.length : Int) + 1 = 0) = False := by simp; omega
    simp -implicitDefEqProofs [c_ballot_Max, h0]
    refine call_of (greatest_ok c hA hc (by simpa using hs'.le (H.le_alloc _)) (by simp at hl; omega) fun H1 h1 => ?_)
    have k2 := (h1.get H.next (by simp [YX])).trans (alloc_get H _)
    simp -implicitDefEqProofs [k2, vB]
    refine hK _ ⟨by have := h1.next; simp only [YX] at this; simp only [YY]; omega, fun k hk => ?_⟩
    rw [YW, if_neg (by omega), h1.get k (by simp only [YX]; omega), YV, if_neg (by omega)]

end
end Go.Proofs.YtpbbjfighohokaaI
