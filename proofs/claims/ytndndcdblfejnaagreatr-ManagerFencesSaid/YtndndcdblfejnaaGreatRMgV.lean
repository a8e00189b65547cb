/- Commands and answers as bytes: the document. -/
import Derived.Test.YtndndcdblfejnaaGreatRMgU
import Derived.Test.YtndndcdblfejnaaGreatRRef01M
namespace Go.Proofs.YtndndcdblfejnaaGreatRI
attribute [local simp] J0 J1 J2 J3 J4 J5 J6 J7 J8 J9 Ja Jb Jc Jd Je Jf Jg Jh Ji Jj Jk Jl Jm Jn Jo Jp Jq Jr Js Jt Ju Jv Jw Jx Jy Jz JA JB JC JD JE JF JG JH JI JJ JK JL JM JN JO JP JQ JR JS stillI IOp.kind JT JU JV JW JX JY JZ Y0 Y1 Y2 Y3 Y4 Y5 Y6 Y7 Y8 Y9 Ya Yb Yc Yd Ye Yf Yg Yh Yi Yj Yk Yl Ym Yn Yo Yp Yq ial Yr Ys Yt Yu Yv Yw Yx Yy ires iresL ires1 Yz YA YB YC YD YE bin2 YF YG YH YI YJ YK YL YM YN YO YP YQ YR YS YT YU un1 shOk eqL eq1 fillL putAt IHeap.load1 IHeap.loadL IHeap.storeL YV YW YX YY YZ B0 B1 B2 B3 B4 B5 B6 B7 B8 B9 Ba Bb Bc Bd Be Bf Bg Bh Bi Bj Bk Bl Bm Bn Bo Bp
set_option linter.unusedSimpArgs false
set_option linter.unusedVariables false
open Go

section
variable (c : Ctx) (h3 : HasRef03 c) (hL : HasLaw28 c) {H : IHeap} {K : Value → IHeap → Prop}

include h3 hL in
theorem rEncode_ok {x : Cmd} (hx : okX x) (hK : ∀ H', H.le H' → K (.tuple #[strV (if okC x = true then encC x else []), .int .i64 (if okC x = true then 0 else 1)]) H') : c.C (c.F n_hurdleref28_Encode) [cmdV x] H K := by
  refine c.enter hL.hurdleref28_Encode rfl ?_
  have bad : okC x = false → ∀ H', H.le H' → K (.tuple #[.string ⟨#[]⟩, .int .i64 1]) H' := fun h H' hl => by
    have := hK H' hl
    rw [if_neg (by rw [h]; simp), if_neg (by rw [h]; simp)] at this
    exact this
  have e : okC x = (decide (0 ≤ x.cl) && (decide (x.cl < 16) && (decide (0 ≤ x.sq) && (decide (x.sq < 2147483648) && (decide (1 ≤ x.kd) && decide (x.kd ≤ 9)))))) := rfl
  unfold cmdV
  by_cases a1 : x.cl < 0
  · simp -implicitDefEqProofs [c_hurdleref28_Encode, a1]
    exact bad (by rw [e]; simp; omega) _ (by (repeat' first | exact IHeap.le_refl _ | assumption | apply IHeap.le.alloc | (refine IHeap.le.set ?_ (by (try simp only [YX, YY]); omega) _) | (refine IHeap.le.trans ?_ (by assumption))))
  by_cases a2 : 16 ≤ x.cl
  · simp -implicitDefEqProofs [c_hurdleref28_Encode, a1, a2]
    exact bad (by rw [e]; simp; omega) _ (by (repeat' first | exact IHeap.le_refl _ | assumption | apply IHeap.le.alloc | (refine IHeap.le.set ?_ (by (try simp only [YX, YY]); omega) _) | (refine IHeap.le.trans ?_ (by assumption))))
  by_cases a3 : x.sq < 0
  · simp -implicitDefEqProofs [c_hurdleref28_Encode, a1, a2, a3]
    exact bad (by rw [e]; simp; omega) _ (by (repeat' first | exact IHeap.le_refl _ | assumption | apply IHeap.le.alloc | (refine IHeap.le.set ?_ (by (try simp only [YX, YY]); omega) _) | (refine IHeap.le.trans ?_ (by assumption))))
  by_cases a4 : 2147483648 ≤ x.sq
  · simp -implicitDefEqProofs [c_hurdleref28_Encode, a1, a2, a3, a4]
    exact bad (by rw [e]; simp; omega) _ (by (repeat' first | exact IHeap.le_refl _ | assumption | apply IHeap.le.alloc | (refine IHeap.le.set ?_ (by (try simp only [YX, YY]); omega) _) | (refine IHeap.le.trans ?_ (by assumption))))
  by_cases a5 : x.kd < 1
  · simp -implicitDefEqProofs [c_hurdleref28_Encode, a1, a2, a3, a4, a5]
    exact bad (by rw [e]; simp; omega) _ (by (repeat' first | exact IHeap.le_refl _ | assumption | apply IHeap.le.alloc | (refine IHeap.le.set ?_ (by (try simp only [YX, YY]); omega) _) | (refine IHeap.le.trans ?_ (by assumption))))
  by_cases a6 : 9 < x.kd
  · simp -implicitDefEqProofs [c_hurdleref28_Encode, a1, a2, a3, a4, a5, a6]
    exact bad (by rw [e]; simp; omega) _ (by (repeat' first | exact IHeap.le_refl _ | assumption | apply IHeap.le.alloc | (refine IHeap.le.set ?_ (by (try simp only [YX, YY]); omega) _) | (refine IHeap.le.trans ?_ (by assumption))))
  have ho : okC x = true := okC_iff.2 ⟨by omega, by omega, by omega, by omega, by omega, by omega⟩
  rw [if_pos ho, if_pos ho] at hK
  obtain ⟨HA, hHA⟩ : ∃ X : IHeap, X = H.alloc (.cells [.int .i64 x.cl, .int .i64 x.sq, .int .i64 x.kd, .int .i64 x.a, .int .i64 x.b, .int .i64 x.c, .int .i64 x.d, .int .i64 x.e] false) := ⟨_, rfl⟩
  have k0 : H.le HA := by rw [hHA]; exact H.le_alloc _
  have n0 : H.next < HA.next := by rw [hHA, YX]; omega
  have g0 : HA.get H.next = some (.cells [.int .i64 x.cl, .int .i64 x.sq, .int .i64 x.kd, .int .i64 x.a, .int .i64 x.b, .int .i64 x.c, .int .i64 x.d, .int .i64 x.e] false) := by rw [hHA, YV, if_pos rfl]
  have l_cl := encI_len hx.cl.1 hx.cl.2
  have l_sq := encI_len hx.sq.1 hx.sq.2
  have l_kd := encI_len hx.kd.1 hx.kd.2
  have l_a := encI_len hx.a.1 hx.a.2
  have l_b := encI_len hx.b.1 hx.b.2
  have l_c := encI_len hx.c.1 hx.c.2
  have l_d := encI_len hx.d.1 hx.d.2
  have l_e := encI_len hx.e.1 hx.e.2
  simp -implicitDefEqProofs [c_hurdleref28_Encode, a1, a2, a3, a4, a5, a6, ← hHA, g0]
  refine dcall_of c.mono (refInt_ok c h3 hx.cl.1 hx.cl.2 fun H1 k1 => ?_)
  have g1 := (k1.get H.next (by omega)).trans g0
  have n1 := k1.next
  simp -implicitDefEqProofs [g1]
  refine dcall_of c.mono (refInt_ok c h3 hx.sq.1 hx.sq.2 fun H2 k2 => ?_)
  have g2 := (k2.get H.next (by omega)).trans g1
  have n2 := k2.next
  obtain ⟨s1, hs1⟩ : ∃ s, s = encI x.cl ++ encI x.sq := ⟨_, rfl⟩
  have q1 : s1.length ≤ 20 := by rw [hs1, List.length_append]; omega
  have m1 : ¬ (9223372036854775807 : Int) < ((encI x.cl).length : Int) + ((encI x.sq).length : Int) := by omega
  simp -implicitDefEqProofs [g2, strV, str2, m1, ← hs1]
  refine dcall_of c.mono (refInt_ok c h3 hx.kd.1 hx.kd.2 fun H3 k3 => ?_)
  have g3 := (k3.get H.next (by omega)).trans g2
  have n3 := k3.next
  obtain ⟨s2, hs2⟩ : ∃ s, s = s1 ++ encI x.kd := ⟨_, rfl⟩
  have q2 : s2.length ≤ 30 := by rw [hs2, List.length_append]; omega
  have m2 : ¬ (9223372036854775807 : Int) < ((s1).length : Int) + ((encI x.kd).length : Int) := by omega
  simp -implicitDefEqProofs [g3, strV, str2, m2, ← hs2]
  refine dcall_of c.mono (refInt_ok c h3 hx.a.1 hx.a.2 fun H4 k4 => ?_)
  have g4 := (k4.get H.next (by omega)).trans g3
  have n4 := k4.next
  obtain ⟨s3, hs3⟩ : ∃ s, s = s2 ++ encI x.a := ⟨_, rfl⟩
  have q3 : s3.length ≤ 40 := by rw [hs3, List.length_append]; omega
  have m3 : ¬ (9223372036854775807 : Int) < ((s2).length : Int) + ((encI x.a).length : Int) := by omega
  simp -implicitDefEqProofs [g4, strV, str2, m3, ← hs3]
  refine dcall_of c.mono (refInt_ok c h3 hx.b.1 hx.b.2 fun H5 k5 => ?_)
  have g5 := (k5.get H.next (by omega)).trans g4
  have n5 := k5.next
  obtain ⟨s4, hs4⟩ : ∃ s, s = s3 ++ encI x.b := ⟨_, rfl⟩
  have q4 : s4.length ≤ 50 := by rw [hs4, List.length_append]; omega
  have m4 : ¬ (9223372036854775807 : Int) < ((s3).length : Int) + ((encI x.b).length : Int) := by omega
  simp -implicitDefEqProofs [g5, strV, str2, m4, ← hs4]
  refine dcall_of c.mono (refInt_ok c h3 hx.c.1 hx.c.2 fun H6 k6 => ?_)
  have g6 := (k6.get H.next (by omega)).trans g5
  have n6 := k6.next
  obtain ⟨s5, hs5⟩ : ∃ s, s = s4 ++ encI x.c := ⟨_, rfl⟩
  have q5 : s5.length ≤ 60 := by rw [hs5, List.length_append]; omega
  have m5 : ¬ (9223372036854775807 : Int) < ((s4).length : Int) + ((encI x.c).length : Int) := by omega
  simp -implicitDefEqProofs [g6, strV, str2, m5, ← hs5]
  refine dcall_of c.mono (refInt_ok c h3 hx.d.1 hx.d.2 fun H7 k7 => ?_)
  have g7 := (k7.get H.next (by omega)).trans g6
  have n7 := k7.next
  obtain ⟨s6, hs6⟩ : ∃ s, s = s5 ++ encI x.d := ⟨_, rfl⟩
  have q6 : s6.length ≤ 70 := by rw [hs6, List.length_append]; omega
  have m6 : ¬ (9223372036854775807 : Int) < ((s5).length : Int) + ((encI x.d).length : Int) := by omega
  simp -implicitDefEqProofs [g7, strV, str2, m6, ← hs6]
  refine dcall_of c.mono (refInt_ok c h3 hx.e.1 hx.e.2 fun H8 k8 => ?_)
  have g8 := (k8.get H.next (by omega)).trans g7
  have n8 := k8.next
  obtain ⟨s7, hs7⟩ : ∃ s, s = s6 ++ encI x.e := ⟨_, rfl⟩
  have q7 : s7.length ≤ 80 := by rw [hs7, List.length_append]; omega
  have m7 : ¬ (9223372036854775807 : Int) < ((s6).length : Int) + ((encI x.e).length : Int) := by omega
  simp -implicitDefEqProofs [g8, strV, str2, m7, ← hs7]
  have es : s7 = encC x := by rw [hs7, hs6, hs5, hs4, hs3, hs2, hs1]; rfl
  rw [← es] at hK
  exact hK _ ((((((((k0.trans k1).trans k2).trans k3).trans k4).trans k5).trans k6).trans k7).trans k8)

include h3 hL in
theorem rAnswer_ok {s : List UInt8} (hs : s.length ≤ 1000000) (hK : ∀ v H', H.le H' → SlR H' 1 v ((rdAns s).2.1.map rowI) → K (.tuple #[.int .i64 (rdAns s).1, v, .int .i64 (rdAns s).2.2]) H') : c.C (c.F n_hurdleref28_Answer) [strV s] H K := by
  refine c.enter hL.hurdleref28_Answer rfl ?_
  unfold rdAns at hK
  simp -implicitDefEqProofs [c_hurdleref28_Answer, strV]
  refine call_of (refTakeByte_ok c h3 (r := some s) fun H1 k1 => ?_)
  obtain ⟨r1, hr1⟩ : ∃ r1, r1 = takeByte (some s) := ⟨_, rfl⟩
  rw [← hr1] at hK ⊢
  have l1 : (rdS r1.1).length ≤ 1000000 := by
    rw [hr1]
    cases s with
    | nil => simp [takeByte, rdS]
    | cons b t => simp only [List.length_cons] at hs; simp only [takeByte, rdS]; omega
  obtain ⟨H2, hH2⟩ : ∃ X : IHeap, X = (H1.alloc (.cells [.string ⟨#[]⟩, .bool false] false)).set H1.next (.cells [strV (rdS r1.1), .bool r1.1.isNone] false) := ⟨_, rfl⟩
  have k2 : H1.le H2 := by rw [hH2]; exact (H1.le_alloc _).set (Nat.le_refl _) _
  have n2 : H2.next = H1.next + 1 := by rw [hH2]; rfl
  have g2 : H2.get H1.next = some (.cells [strV (rdS r1.1), .bool r1.1.isNone] false) := by rw [hH2, YW, if_pos rfl]
  unfold strV at hH2 g2
  unfold rV strV
  simp -implicitDefEqProofs [← hH2, g2]
  refine call_of (refTakeInts_ok c h3 (r := r1.1) l1 fun v H3 k3 gr => ?_)
  have n3 := k3.next
  have g3 := (k3.get H1.next (by omega)).trans g2
  obtain ⟨r2, hr2⟩ : ∃ r2, r2 = takeList takeInt r1.1 := ⟨_, rfl⟩
  rw [← hr2] at hK gr ⊢
  unfold rV strV
  simp -implicitDefEqProofs [g3]
  have k4 := ((k1.trans k2).trans k3).set (i := H1.next) k1.next (.cells [.string ⟨(rdS r2.1).toArray⟩, .bool r2.1.isNone] false)
  refine call_of (refEnd_ok c h3 (r := r2.1) fun H5 k5 => ?_)
  by_cases he : r2.1 = some []
  · rw [if_pos he] at hK
    have hre : rdE r2.1 = 0 := if_pos he
    simp -implicitDefEqProofs [hre]
    have d3 := gr.slD.fr (B := fun b => b = H1.next) (((IHeap.le_refl H3).fr (fun b => b = H1.next)).set (i := H1.next) (.inl rfl) (.cells [.string ⟨(rdS r2.1).toArray⟩, .bool r2.1.isNone] false)) (fun b hb e => by omega)
    exact hK v _ (k4.trans k5) (d3.1.le k5)
  · rw [if_neg he] at hK
    have hre : rdE r2.1 = 3 := if_neg he
    simp -implicitDefEqProofs [hre]
    exact hK _ _ (k4.trans k5) (nil_of _)

include h3 hL in
theorem rDecode_ok {s : List UInt8} (hs : s.length ≤ 1000000) (hK : ∀ H', H.le H' → K (.tuple #[cmdV ((decC s).getD cmd0), .int .i64 (if (decC s).isSome = true then 0 else 3)]) H') : c.C (c.F n_hurdleref28_Decode) [strV s] H K := by
  refine c.enter hL.hurdleref28_Decode rfl ?_
  obtain ⟨r0, hr0⟩ : ∃ r0 : Rd, r0 = some s := ⟨_, rfl⟩
  have y0 : (rdS r0).length ≤ 1000000 := by rw [hr0]; exact hs
  have ek : strV s = .string ⟨(rdS r0).toArray⟩ := by rw [hr0]; rfl
  have en : r0.isNone = false := by rw [hr0]; rfl
  obtain ⟨G0, hG0⟩ : ∃ X : IHeap, X = ((H.alloc (.cells [.int .i64 0, .int .i64 0, .int .i64 0, .int .i64 0, .int .i64 0, .int .i64 0, .int .i64 0, .int .i64 0] false)).alloc (.cells [.string ⟨#[]⟩, .bool false] false)).set (H.next + 1) (.cells [.string ⟨(rdS r0).toArray⟩, .bool r0.isNone] false) := ⟨_, rfl⟩
  have k0 : H.le G0 := by rw [hG0]; exact ((H.le_alloc _).trans (IHeap.le_alloc _ _)).set (by omega) _
  have n0 : G0.next = H.next + 2 := by rw [hG0]; rfl
  have z0 : G0.get H.next = some (.cells [.int .i64 0, .int .i64 0, .int .i64 0, .int .i64 0, .int .i64 0, .int .i64 0, .int .i64 0, .int .i64 0] false) := by rw [hG0, YW, if_neg (by omega), YV, YX, if_neg (by omega), YV, if_pos rfl]
  have g0 : G0.get (H.next + 1) = some (.cells [.string ⟨(rdS r0).toArray⟩, .bool r0.isNone] false) := by rw [hG0, YW, if_pos rfl]
  have n0' : H.next + 1 < G0.next := by omega
  rw [en] at hG0
  rw [ek]
  simp -implicitDefEqProofs [c_hurdleref28_Decode, ← hG0, g0]
  refine call_of (refTakeInt_ok c h3 (r := r0) y0 fun E1 e1 => ?_)
  obtain ⟨r1, hr1⟩ : ∃ r1, r1 = (takeInt r0).1 := ⟨_, rfl⟩
  obtain ⟨i1, hi1⟩ : ∃ i1, i1 = (takeInt r0).2 := ⟨_, rfl⟩
  have y1 : (rdS r1).length ≤ 1000000 := by rw [hr1]; exact takeInt_le y0
  rw [← hr1, ← hi1]
  have x1 := (e1.get _ n0').trans g0
  obtain ⟨G1, hG1⟩ : ∃ X : IHeap, X = E1.set (H.next + 1) (.cells [.string ⟨(rdS r1).toArray⟩, .bool r1.isNone] false) := ⟨_, rfl⟩
  have k1 : H.le G1 := by rw [hG1]; exact (k0.trans e1).set (by omega) _
  have n1' : H.next + 1 < G1.next := by rw [hG1, YY]; exact Nat.lt_of_lt_of_le n0' e1.next
  have z1 : G1.get H.next = some (.cells [.int .i64 0, .int .i64 0, .int .i64 0, .int .i64 0, .int .i64 0, .int .i64 0, .int .i64 0, .int .i64 0] false) := by rw [hG1, YW, if_neg (by omega)]; exact (e1.get _ (by omega)).trans z0
  have g1 : G1.get (H.next + 1) = some (.cells [.string ⟨(rdS r1).toArray⟩, .bool r1.isNone] false) := by rw [hG1, YW, if_pos rfl]
  unfold rV strV
  simp -implicitDefEqProofs [x1, ← hG1, g1]
  refine call_of (refTakeInt_ok c h3 (r := r1) y1 fun E2 e2 => ?_)
  obtain ⟨r2, hr2⟩ : ∃ r2, r2 = (takeInt r1).1 := ⟨_, rfl⟩
  obtain ⟨i2, hi2⟩ : ∃ i2, i2 = (takeInt r1).2 := ⟨_, rfl⟩
  have y2 : (rdS r2).length ≤ 1000000 := by rw [hr2]; exact takeInt_le y1
  rw [← hr2, ← hi2]
  have x2 := (e2.get _ n1').trans g1
  obtain ⟨G2, hG2⟩ : ∃ X : IHeap, X = E2.set (H.next + 1) (.cells [.string ⟨(rdS r2).toArray⟩, .bool r2.isNone] false) := ⟨_, rfl⟩
  have k2 : H.le G2 := by rw [hG2]; exact (k1.trans e2).set (by omega) _
  have n2' : H.next + 1 < G2.next := by rw [hG2, YY]; exact Nat.lt_of_lt_of_le n1' e2.next
  have z2 : G2.get H.next = some (.cells [.int .i64 0, .int .i64 0, .int .i64 0, .int .i64 0, .int .i64 0, .int .i64 0, .int .i64 0, .int .i64 0] false) := by rw [hG2, YW, if_neg (by omega)]; exact (e2.get _ (by omega)).trans z1
  have g2 : G2.get (H.next + 1) = some (.cells [.string ⟨(rdS r2).toArray⟩, .bool r2.isNone] false) := by rw [hG2, YW, if_pos rfl]
  unfold rV strV
  simp -implicitDefEqProofs [x2, ← hG2, g2]
  refine call_of (refTakeInt_ok c h3 (r := r2) y2 fun E3 e3 => ?_)
  obtain ⟨r3, hr3⟩ : ∃ r3, r3 = (takeInt r2).1 := ⟨_, rfl⟩
  obtain ⟨i3, hi3⟩ : ∃ i3, i3 = (takeInt r2).2 := ⟨_, rfl⟩
  have y3 : (rdS r3).length ≤ 1000000 := by rw [hr3]; exact takeInt_le y2
  rw [← hr3, ← hi3]
  have x3 := (e3.get _ n2').trans g2
  obtain ⟨G3, hG3⟩ : ∃ X : IHeap, X = E3.set (H.next + 1) (.cells [.string ⟨(rdS r3).toArray⟩, .bool r3.isNone] false) := ⟨_, rfl⟩
  have k3 : H.le G3 := by rw [hG3]; exact (k2.trans e3).set (by omega) _
  have n3' : H.next + 1 < G3.next := by rw [hG3, YY]; exact Nat.lt_of_lt_of_le n2' e3.next
  have z3 : G3.get H.next = some (.cells [.int .i64 0, .int .i64 0, .int .i64 0, .int .i64 0, .int .i64 0, .int .i64 0, .int .i64 0, .int .i64 0] false) := by rw [hG3, YW, if_neg (by omega)]; exact (e3.get _ (by omega)).trans z2
  have g3 : G3.get (H.next + 1) = some (.cells [.string ⟨(rdS r3).toArray⟩, .bool r3.isNone] false) := by rw [hG3, YW, if_pos rfl]
  unfold rV strV
  simp -implicitDefEqProofs [x3, ← hG3, g3]
  refine call_of (refTakeInt_ok c h3 (r := r3) y3 fun E4 e4 => ?_)
  obtain ⟨r4, hr4⟩ : ∃ r4, r4 = (takeInt r3).1 := ⟨_, rfl⟩
  obtain ⟨i4, hi4⟩ : ∃ i4, i4 = (takeInt r3).2 := ⟨_, rfl⟩
  have y4 : (rdS r4).length ≤ 1000000 := by rw [hr4]; exact takeInt_le y3
  rw [← hr4, ← hi4]
  have x4 := (e4.get _ n3').trans g3
  obtain ⟨G4, hG4⟩ : ∃ X : IHeap, X = E4.set (H.next + 1) (.cells [.string ⟨(rdS r4).toArray⟩, .bool r4.isNone] false) := ⟨_, rfl⟩
  have k4 : H.le G4 := by rw [hG4]; exact (k3.trans e4).set (by omega) _
  have n4' : H.next + 1 < G4.next := by rw [hG4, YY]; exact Nat.lt_of_lt_of_le n3' e4.next
  have z4 : G4.get H.next = some (.cells [.int .i64 0, .int .i64 0, .int .i64 0, .int .i64 0, .int .i64 0, .int .i64 0, .int .i64 0, .int .i64 0] false) := by rw [hG4, YW, if_neg (by omega)]; exact (e4.get _ (by omega)).trans z3
  have g4 : G4.get (H.next + 1) = some (.cells [.string ⟨(rdS r4).toArray⟩, .bool r4.isNone] false) := by rw [hG4, YW, if_pos rfl]
  unfold rV strV
  simp -implicitDefEqProofs [x4, ← hG4, g4]
  refine call_of (refTakeInt_ok c h3 (r := r4) y4 fun E5 e5 => ?_)
  obtain ⟨r5, hr5⟩ : ∃ r5, r5 = (takeInt r4).1 := ⟨_, rfl⟩
  obtain ⟨i5, hi5⟩ : ∃ i5, i5 = (takeInt r4).2 := ⟨_, rfl⟩
  have y5 : (rdS r5).length ≤ 1000000 := by rw [hr5]; exact takeInt_le y4
  rw [← hr5, ← hi5]
  have x5 := (e5.get _ n4').trans g4
  obtain ⟨G5, hG5⟩ : ∃ X : IHeap, X = E5.set (H.next + 1) (.cells [.string ⟨(rdS r5).toArray⟩, .bool r5.isNone] false) := ⟨_, rfl⟩
  have k5 : H.le G5 := by rw [hG5]; exact (k4.trans e5).set (by omega) _
  have n5' : H.next + 1 < G5.next := by rw [hG5, YY]; exact Nat.lt_of_lt_of_le n4' e5.next
  have z5 : G5.get H.next = some (.cells [.int .i64 0, .int .i64 0, .int .i64 0, .int .i64 0, .int .i64 0, .int .i64 0, .int .i64 0, .int .i64 0] false) := by rw [hG5, YW, if_neg (by omega)]; exact (e5.get _ (by omega)).trans z4
  have g5 : G5.get (H.next + 1) = some (.cells [.string ⟨(rdS r5).toArray⟩, .bool r5.isNone] false) := by rw [hG5, YW, if_pos rfl]
  unfold rV strV
  simp -implicitDefEqProofs [x5, ← hG5, g5]
  refine call_of (refTakeInt_ok c h3 (r := r5) y5 fun E6 e6 => ?_)
  obtain ⟨r6, hr6⟩ : ∃ r6, r6 = (takeInt r5).1 := ⟨_, rfl⟩
  obtain ⟨i6, hi6⟩ : ∃ i6, i6 = (takeInt r5).2 := ⟨_, rfl⟩
  have y6 : (rdS r6).length ≤ 1000000 := by rw [hr6]; exact takeInt_le y5
  rw [← hr6, ← hi6]
  have x6 := (e6.get _ n5').trans g5
  obtain ⟨G6, hG6⟩ : ∃ X : IHeap, X = E6.set (H.next + 1) (.cells [.string ⟨(rdS r6).toArray⟩, .bool r6.isNone] false) := ⟨_, rfl⟩
  have k6 : H.le G6 := by rw [hG6]; exact (k5.trans e6).set (by omega) _
  have n6' : H.next + 1 < G6.next := by rw [hG6, YY]; exact Nat.lt_of_lt_of_le n5' e6.next
  have z6 : G6.get H.next = some (.cells [.int .i64 0, .int .i64 0, .int .i64 0, .int .i64 0, .int .i64 0, .int .i64 0, .int .i64 0, .int .i64 0] false) := by rw [hG6, YW, if_neg (by omega)]; exact (e6.get _ (by omega)).trans z5
  have g6 : G6.get (H.next + 1) = some (.cells [.string ⟨(rdS r6).toArray⟩, .bool r6.isNone] false) := by rw [hG6, YW, if_pos rfl]
  unfold rV strV
  simp -implicitDefEqProofs [x6, ← hG6, g6]
  refine call_of (refTakeInt_ok c h3 (r := r6) y6 fun E7 e7 => ?_)
  obtain ⟨r7, hr7⟩ : ∃ r7, r7 = (takeInt r6).1 := ⟨_, rfl⟩
  obtain ⟨i7, hi7⟩ : ∃ i7, i7 = (takeInt r6).2 := ⟨_, rfl⟩
  have y7 : (rdS r7).length ≤ 1000000 := by rw [hr7]; exact takeInt_le y6
  rw [← hr7, ← hi7]
  have x7 := (e7.get _ n6').trans g6
  obtain ⟨G7, hG7⟩ : ∃ X : IHeap, X = E7.set (H.next + 1) (.cells [.string ⟨(rdS r7).toArray⟩, .bool r7.isNone] false) := ⟨_, rfl⟩
  have k7 : H.le G7 := by rw [hG7]; exact (k6.trans e7).set (by omega) _
  have n7' : H.next + 1 < G7.next := by rw [hG7, YY]; exact Nat.lt_of_lt_of_le n6' e7.next
  have z7 : G7.get H.next = some (.cells [.int .i64 0, .int .i64 0, .int .i64 0, .int .i64 0, .int .i64 0, .int .i64 0, .int .i64 0, .int .i64 0] false) := by rw [hG7, YW, if_neg (by omega)]; exact (e7.get _ (by omega)).trans z6
  have g7 : G7.get (H.next + 1) = some (.cells [.string ⟨(rdS r7).toArray⟩, .bool r7.isNone] false) := by rw [hG7, YW, if_pos rfl]
  unfold rV strV
  simp -implicitDefEqProofs [x7, ← hG7, g7]
  refine call_of (refTakeInt_ok c h3 (r := r7) y7 fun E8 e8 => ?_)
  obtain ⟨r8, hr8⟩ : ∃ r8, r8 = (takeInt r7).1 := ⟨_, rfl⟩
  obtain ⟨i8, hi8⟩ : ∃ i8, i8 = (takeInt r7).2 := ⟨_, rfl⟩
  have y8 : (rdS r8).length ≤ 1000000 := by rw [hr8]; exact takeInt_le y7
  rw [← hr8, ← hi8]
  have x8 := (e8.get _ n7').trans g7
  obtain ⟨G8, hG8⟩ : ∃ X : IHeap, X = E8.set (H.next + 1) (.cells [.string ⟨(rdS r8).toArray⟩, .bool r8.isNone] false) := ⟨_, rfl⟩
  have k8 : H.le G8 := by rw [hG8]; exact (k7.trans e8).set (by omega) _
  have n8' : H.next + 1 < G8.next := by rw [hG8, YY]; exact Nat.lt_of_lt_of_le n7' e8.next
  have z8 : G8.get H.next = some (.cells [.int .i64 0, .int .i64 0, .int .i64 0, .int .i64 0, .int .i64 0, .int .i64 0, .int .i64 0, .int .i64 0] false) := by rw [hG8, YW, if_neg (by omega)]; exact (e8.get _ (by omega)).trans z7
  have g8 : G8.get (H.next + 1) = some (.cells [.string ⟨(rdS r8).toArray⟩, .bool r8.isNone] false) := by rw [hG8, YW, if_pos rfl]
  unfold rV strV
  simp -implicitDefEqProofs [x8, ← hG8, g8]
  have hx : (rdC8 (some s)) = (r8, ⟨i1, i2, i3, i4, i5, i6, i7, i8⟩) := by
    unfold rdC8
    simp only [← hr0, ← hr1, ← hi1, ← hr2, ← hi2, ← hr3, ← hi3, ← hr4, ← hi4, ← hr5, ← hi5, ← hr6, ← hi6, ← hr7, ← hi7, ← hr8, ← hi8]
  obtain ⟨x, hxx⟩ : ∃ x : Cmd, x = ⟨i1, i2, i3, i4, i5, i6, i7, i8⟩ := ⟨_, rfl⟩
  rw [← hxx] at hx
  have hxo : okX x := by have := rdC8_ok (some s); rw [hx] at this; exact this
  have hd : decC s = if okC x = true ∧ r8 = some [] then some x else none := by unfold decC; rw [hx]
  obtain ⟨J, hJ⟩ : ∃ X : IHeap, X = (G8.alloc (.cells [.int .i64 0, .int .i64 0, .int .i64 0, .int .i64 0, .int .i64 0, .int .i64 0, .int .i64 0, .int .i64 0] false)).set G8.next (.cells [.int .i64 i1, .int .i64 i2, .int .i64 i3, .int .i64 i4, .int .i64 i5, .int .i64 i6, .int .i64 i7, .int .i64 i8] false) := ⟨_, rfl⟩
  have kJ : G8.le J := by rw [hJ]; exact (G8.le_alloc _).set (Nat.le_refl _) _
  have nJ : J.next = G8.next + 1 := by rw [hJ]; rfl
  have gJ : J.get G8.next = some (.cells [.int .i64 i1, .int .i64 i2, .int .i64 i3, .int .i64 i4, .int .i64 i5, .int .i64 i6, .int .i64 i7, .int .i64 i8] false) := by rw [hJ, YW, if_pos rfl]
  have gJ4 := (kJ.get _ n8').trans g8
  have gJz := (kJ.get _ (by omega)).trans z8
  simp -implicitDefEqProofs [← hJ, gJ]
  refine call_of (rEncode_ok c h3 hL (x := ⟨i1, i2, i3, i4, i5, i6, i7, i8⟩) (hxx ▸ hxo) fun Q kQ => ?_)
  rw [← hxx]
  have gQ := (kQ.get _ (by omega)).trans gJ
  have gQ4 := (kQ.get _ (by omega)).trans gJ4
  have gQz := (kQ.get _ (by omega)).trans gJz
  have kk := (k8.trans kJ).trans kQ
  have bad : decC s = none → ∀ Y, H.le Y → K (.tuple #[.agg #[.int .i64 0, .int .i64 0, .int .i64 0, .int .i64 0, .int .i64 0, .int .i64 0, .int .i64 0, .int .i64 0], .int .i64 3]) Y := fun hn Y hY => by
    have := hK Y hY
    rw [hn] at this
    exact this
  by_cases ho : okC x = true
  · simp -implicitDefEqProofs [ho, gQ4]
    refine call_of (refEnd_ok c h3 (r := r8) fun W kW => ?_)
    have gW := (kW.get _ (by have := kQ.next; omega)).trans gQ
    have gWz := (kW.get _ (by have := kQ.next; omega)).trans gQz
    by_cases he : r8 = some []
    · have hre : rdE r8 = 0 := if_pos he
      have hds : decC s = some x := by rw [hd, if_pos ⟨ho, he⟩]
      have hse : rdS r0 = encC x := by rw [hr0]; exact (decC_some hds).1
      rw [hds] at hK
      have hK := fun Y hY => hK Y hY
      simp only [Option.getD_some, Option.isSome_some, if_true, hxx, cmdV] at hK
      simp -implicitDefEqProofs [hre, strV, str2, hse, gW, gWz]
      exact hK _ ((kk.trans kW).set (Nat.le_refl _) _)
    · have hre : rdE r8 = 3 := if_neg he
      have hdn : decC s = none := by rw [hd, if_neg (fun z => he z.2)]
      simp -implicitDefEqProofs [hre, gW, gWz]
      exact bad hdn _ ((kk.trans kW).set (Nat.le_refl _) _)
  · have hdn : decC s = none := by rw [hd, if_neg (fun z => ho z.1)]
    simp -implicitDefEqProofs [ho, gQz]
    exact bad hdn _ (kk.set (Nat.le_refl _) _)
end
end Go.Proofs.YtndndcdblfejnaaGreatRI
