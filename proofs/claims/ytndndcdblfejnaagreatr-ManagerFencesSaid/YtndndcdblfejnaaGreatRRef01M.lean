/- The document's answer for numbers and texts as bytes: what each function does. / The document's answer for lists as bytes: what each function does. / Lists compared, one by one. -/
import Derived.Test.YtndndcdblfejnaaGreatRCodecPM
namespace Go.Proofs.YtndndcdblfejnaaGreatRI
attribute [local simp] J0 J1 J2 J3 J4 J5 J6 J7 J8 J9 Ja Jb Jc Jd Je Jf Jg Jh Ji Jj Jk Jl Jm Jn Jo Jp Jq Jr Js Jt Ju Jv Jw Jx Jy Jz JA JB JC JD JE JF JG JH JI JJ JK JL JM JN JO JP JQ JR JS stillI IOp.kind JT JU JV JW JX JY JZ Y0 Y1 Y2 Y3 Y4 Y5 Y6 Y7 Y8 Y9 Ya Yb Yc Yd Ye Yf Yg Yh Yi Yj Yk Yl Ym Yn Yo Yp Yq ial Yr Ys Yt Yu Yv Yw Yx Yy ires iresL ires1 Yz YA YB YC YD YE bin2 YF YG YH YI YJ YK YL YM YN YO YP YQ YR YS YT YU un1 shOk eqL eq1 fillL putAt IHeap.load1 IHeap.loadL IHeap.storeL YV YW YX YY YZ B0 B1 B2 B3 B4 B5 B6 B7 B8 B9 Ba Bb Bc Bd Be Bf Bg Bh Bi Bj Bk Bl Bm Bn Bo Bp
set_option linter.unusedSimpArgs false
set_option linter.unusedVariables false
open Go

def wV (w : Wr) : Value := .agg #[.int .i64 w.most, .int .i64 w.e, strV w.b]
def rV (r : Rd) : Value := .agg #[strV (rdS r), .bool r.isNone]


theorem Own.bytes {H : IHeap} {B : Nat} {v : Value} {l : List UInt8} (h : Own H B 1 v (l.map rowU)) : ∃ b cap cs, v = .slice (some ⟨b, 0, none⟩) l.length cap ∧ H.get b = some (.cells cs false) ∧ l.length ≤ cs.length ∧ bytesL (cs.take l.length) = some l := by
  obtain ⟨h0, blk, h1, h2, rfl, h4⟩ := h
  have hfl := flat_len (l.map rowU) 1 h0
  rw [List.length_map] at hfl
  refine ⟨blk, _, _, by rw [List.length_map], h4, by omega, ?_⟩
  rw [List.take_of_length_le (by omega)]; exact bytesL_row l

theorem zzW2 {n : Int} (h1 : -9223372036854775808 ≤ n) (h2 : n < 9223372036854775808) : if n < 0 then xorW .u64 (shlW .u64 (IntKind.u64.wrap n) 1) 18446744073709551615 = (zz n : Int) else shlW .u64 (IntKind.u64.wrap n) 1 = (zz n : Int) := by
  have hz := zz_lt h1 h2
  by_cases hn : n < 0
  · rw [if_pos hn]
    have e1 : IntKind.u64.wrap n = (((n + 18446744073709551616).toNat : Nat) : Int) := by rw [wrapU_mod]; omega
    have e3 : zz n = (-2 * n - 1).toNat := by unfold zz; rw [if_neg (by omega)]
    rw [e1, shlU]
    have := xorU (a := (n + 18446744073709551616).toNat * 2 % 18446744073709551616) (b := 18446744073709551615) (Nat.mod_lt _ (by omega)) (by decide)
    rw [xor_ones64 (Nat.mod_lt _ (by omega))] at this
    refine this.trans ?_
    rw [e3]; omega
  · rw [if_neg hn]
    have e1 : IntKind.u64.wrap n = ((n.toNat : Nat) : Int) := by rw [wrapU_mod]; omega
    have e3 : zz n = n.toNat * 2 := by unfold zz; rw [if_pos (by omega)]; omega
    rw [e1, shlU, e3]; omega
theorem orB2 {u : Nat} (hu : u < 18446744073709551616) : orW .u8 (IntKind.u8.wrap (andW .u64 (u : Int) 127)) 128 = (((UInt8.ofNat (u % 128 + 128)).toNat : Nat) : Int) := by
  have e1 : andW .u64 (u : Int) 127 = ((u % 128 : Nat) : Int) := by rw [← and127]; exact andU (a := u) (b := 127) hu (by decide)
  rw [e1, orB]
  have : u % 128 % 128 = u % 128 := by omega
  rw [this]

section
variable (c : Ctx) (hc : HasRef03 c) {H : IHeap} {K : Value → IHeap → Prop}
include hc

theorem refInt_ok {n : Int} (h1 : -9223372036854775808 ≤ n) (h2 : n < 9223372036854775808) (hK : ∀ H', H.le H' → K (strV (encI n)) H') : c.C (c.F n_hurdleref03_Int) [.int .i64 n] H K := by
  refine c.enter hc.hurdleref03_Int rfl ?_
  have hzl := zz_lt h1 h2
  have loop : ∀ T, T 3 = .int .u64 (zz n) → iwp c.P c.C (.seq (.ops [⟨some 4, .move (.const (.slice none 0 0)), none⟩]) (.seq (.block 0 (.loop (.seq (.seq (.ops [⟨some 12, .move (.tmp 3), none⟩,
            ⟨some 13, .bin .geq (.tmp 12) (.const (.int .u64 128)), none⟩])
          (.cond (.tmp 13)
           (.skip)
           (.exit 0)))
         (.block 1 (.seq (.ops [⟨some 14, .move (.tmp 4), none⟩,
             ⟨some 15, .move (.tmp 3), none⟩,
             ⟨some 16, .bin .and (.tmp 15) (.const (.int .u64 127)), none⟩,
             ⟨some 17, .conv .u8 (.tmp 16), none⟩,
             ⟨some 18, .bin .or (.tmp 17) (.const (.int .u8 128)), none⟩,
             ⟨some 19, .buildSlice 1 [.int .u8 0] [((0, 1), .tmp 18)], none⟩,
             ⟨some 20, .append 1 1 (.tmp 14) (.tmp 19), none⟩,
             ⟨some 4, .move (.tmp 20), none⟩])
           (.ops [⟨some 21, .move (.tmp 3), none⟩,
             ⟨some 22, .bin .shr (.tmp 21) (.const (.int .u64 7)), none⟩,
             ⟨some 3, .move (.tmp 22), none⟩]))))))
      (.seq (.ops [⟨some 23, .move (.tmp 4), none⟩,
         ⟨some 24, .move (.tmp 3), none⟩,
         ⟨some 25, .conv .u8 (.tmp 24), none⟩,
         ⟨some 26, .buildSlice 1 [.int .u8 0] [((0, 1), .tmp 25)], none⟩,
         ⟨some 27, .append 1 1 (.tmp 23) (.tmp 26), none⟩,
         ⟨some 4, .move (.tmp 27), none⟩])
       (.seq (.ops [⟨some 28, .move (.tmp 4), none⟩,
          ⟨some 29, .bytesStr (.tmp 28), none⟩,
          ⟨some 2, .move (.tmp 29), none⟩])
        (.ret))))) (retR [.tmp 2] K) T H := by
    intro T t3
    simp -implicitDefEqProofs [t3]
    refine loop_nat c.mono (fun u T H' => ∃ (l' : List UInt8) (v' : Value), T 4 = v' ∧ T 3 = .int .u64 u ∧ u < 18446744073709551616 ∧ Grow H' H.next 1 v' (l'.map rowU) ∧ H.le H' ∧ l' ++ enc u = encI n) (zz n) ?_ ?_
    · exact ⟨[], .slice none 0 0, by simp -implicitDefEqProofs [], by simp -implicitDefEqProofs [t3], hzl, Grow.nil _ _ _, H.le_refl, rfl⟩
    · rintro u T H' ⟨l', v', t4, t3, hul, hb', hk, heq⟩
      have hll : l'.length ≤ 10 := by
        have := congrArg List.length heq
        have := encI_len h1 h2
        simp only [List.length_append] at *
        omega
      have hkn := hk.next
      by_cases hu : 128 ≤ u
      · have hu' : (128 : Int) ≤ (u : Int) := by omega
        obtain ⟨x, hor, hx⟩ : ∃ x : UInt8, orW .u8 (IntKind.u8.wrap (andW .u64 (u : Int) 127)) 128 = ((x.toNat : Nat) : Int) ∧ x = UInt8.ofNat (u % 128 + 128) := ⟨_, orB2 hul, rfl⟩
        have hsh := shrU7 u
        simp -implicitDefEqProofs [t4, t3, hu', hu, hor, lenOfI, firstI, IHeap.loadL]
        obtain ⟨v2, H2, e2, o2, k2⟩ := (hb'.le (H'.le_alloc (.cells (rowU x) false))).append1 (bytes := 1) (new := rowU x) (by simp only [YX]; omega) (by omega) (by omega) (by simp; omega) (by simp; omega) rfl rfl
        simp only [rowU, u8V] at e2
        simp -implicitDefEqProofs [e2, t3, hsh]
        refine ⟨u / 128, by omega, by omega, by omega, l' ++ [x], by rw [List.map_append]; exact o2, hk.then ((H'.le_alloc _).keep (by omega) |>.trans k2) (Nat.le_refl _), ?_⟩
        rw [← heq, enc_big (u := u) (by omega), hx]
        simp
      · have hu' : ¬ (128 : Int) ≤ (u : Int) := by omega
        obtain ⟨x, hor, hx⟩ : ∃ x : UInt8, IntKind.u8.wrap (u : Int) = ((x.toNat : Nat) : Int) ∧ x = UInt8.ofNat u := ⟨_, conB (by omega), rfl⟩
        simp -implicitDefEqProofs [t4, t3, hu', hu, hor, lenOfI, firstI, IHeap.loadL]
        obtain ⟨v2, H2, e2, o2, k2⟩ := (hb'.le (H'.le_alloc (.cells (rowU x) false))).buf.append1 (bytes := 1) (new := rowU x) (by simp only [YX]; omega) (by omega) (by omega) (by simp; omega) (by simp; omega) rfl rfl
        simp only [rowU, u8V] at e2
        have o3 : Own H2 H.next 1 v2 ((l' ++ [x]).map rowU) := by rw [List.map_append]; exact o2
        obtain ⟨b, cap, cs, rfl, g1, g2, g3⟩ := o3.bytes
        have hfin := hK H2 (hk.then ((H'.le_alloc _).keep (by omega) |>.trans k2) (Nat.le_refl _))
        rw [← heq, enc_small (by omega), ← hx] at hfin
        simp only [List.length_append, List.length_singleton] at g2 g3
        simp -implicitDefEqProofs [e2, g1, g2, g3, IHeap.loadL]
        exact hfin
  have hz2 := zzW2 h1 h2
  simp -implicitDefEqProofs [] at loop
  by_cases hn : n < 0
  · rw [if_pos hn] at hz2
    simp -implicitDefEqProofs [c_hurdleref03_Int, hn, hz2]
    exact loop _ (by simp -implicitDefEqProofs [])
  · rw [if_neg hn] at hz2
    simp -implicitDefEqProofs [c_hurdleref03_Int, hn, hz2]
    exact loop _ (by simp -implicitDefEqProofs [])

theorem refBad_ok {a b : Value} (hK : ∀ H', H.le H' → K (rV none) H') : c.C (c.F n_hurdleref03_bad) [.agg #[a, b]] H K := by
  refine c.enter hc.hurdleref03_bad rfl ?_
  simp -implicitDefEqProofs [c_hurdleref03_bad, rV, strV]
  exact hK _ (by (repeat' first | exact IHeap.le_refl _ | assumption | apply IHeap.le.alloc | (refine IHeap.le.set ?_ (by (try simp only [YX, YY]); omega) _) | (refine IHeap.le.trans ?_ (by assumption))))

theorem refEnd_ok {r : Rd} (hK : ∀ H', H.le H' → K (.int .i64 (rdE r)) H') : c.C (c.F n_hurdleref03_End) [rV r] H K := by
  refine c.enter hc.hurdleref03_End rfl ?_
  unfold rdE at hK
  match r, hK with
  | none, hK =>
    simp -implicitDefEqProofs [c_hurdleref03_End, rV, strV, rdS]
    exact hK _ (by (repeat' first | exact IHeap.le_refl _ | assumption | apply IHeap.le.alloc | (refine IHeap.le.set ?_ (by (try simp only [YX, YY]); omega) _) | (refine IHeap.le.trans ?_ (by assumption))))
  | some [], hK =>
    simp -implicitDefEqProofs [c_hurdleref03_End, rV, strV, rdS, str2]
    exact hK _ (by (repeat' first | exact IHeap.le_refl _ | assumption | apply IHeap.le.alloc | (refine IHeap.le.set ?_ (by (try simp only [YX, YY]); omega) _) | (refine IHeap.le.trans ?_ (by assumption))))
  | some (b :: s), hK =>
    rw [if_neg (by simp)] at hK
    simp -implicitDefEqProofs [c_hurdleref03_End, rV, strV, rdS, str2]
    exact hK _ (by (repeat' first | exact IHeap.le_refl _ | assumption | apply IHeap.le.alloc | (refine IHeap.le.set ?_ (by (try simp only [YX, YY]); omega) _) | (refine IHeap.le.trans ?_ (by assumption))))

theorem refTakeByte_ok {r : Rd} (hK : ∀ H', H.le H' → K (.tuple #[rV (takeByte r).1, .int .i64 (takeByte r).2]) H') : c.C (c.F n_hurdleref03_TakeByte) [rV r] H K := by
  refine c.enter hc.hurdleref03_TakeByte rfl ?_
  by_cases hr : rdS r = []
  · have e : takeByte r = (none, 0) := by
      cases r with
      | none => rfl
      | some s => simp only [rdS] at hr; subst hr; rfl
    rw [e] at hK
    simp -implicitDefEqProofs [c_hurdleref03_TakeByte, rV, strV, hr, str2]
    refine call_of (refBad_ok c hc fun H1 h1 => ?_)
    have g2 : H1.get (H.next + 1) = some (.cells [.string ⟨#[]⟩, .bool false] false) := by
      rw [h1.get (H.next + 1) (by simp only [YX]; omega)]; simp -implicitDefEqProofs []
    simp -implicitDefEqProofs [rV, strV, rdS, g2]
    refine hK _ ((((H.le_alloc _).alloc _).trans h1).set (by omega) _)
  · obtain ⟨b, s, rfl⟩ : ∃ b s, r = some (b :: s) := by
      cases r with
      | none => simp [rdS] at hr
      | some s => cases s with
        | nil => simp [rdS] at hr
        | cons b s => exact ⟨b, s, rfl⟩
    have hb := b.toNat_lt
    have hw : IntKind.i64.wrap ((b.toNat : Nat) : Int) = ((b.toNat : Nat) : Int) := wrap64 (by omega) (by omega)
    have hl : (1 : Nat) ≤ s.length + 1 := by omega
    simp -implicitDefEqProofs [c_hurdleref03_TakeByte, rV, strV, rdS, str2, boundsI, natI, hw, stillI]
    exact hK _ (by (repeat' first | exact IHeap.le_refl _ | assumption | apply IHeap.le.alloc | (refine IHeap.le.set ?_ (by (try simp only [YX, YY]); omega) _) | (refine IHeap.le.trans ?_ (by assumption))))

omit hc in
theorem takeInt_eq (r : Rd) : takeInt r = match dec 0 0 (rdS r) with
    | some (u, n) => (some ((rdS r).drop n), unzz u)
    | none => (none, 0) := by
  cases r with
  | none => rfl
  | some s => simp only [takeInt, rdS]; cases dec 0 0 s <;> rfl

theorem refTakeInt_ok {r : Rd} (hr : (rdS r).length ≤ 1000000) (hK : ∀ H', H.le H' → K (.tuple #[rV (takeInt r).1, .int .i64 (takeInt r).2]) H') : c.C (c.F n_hurdleref03_TakeInt) [rV r] H K := by
  refine c.enter hc.hurdleref03_TakeInt rfl ?_
  obtain ⟨s, hs⟩ : ∃ s, s = rdS r := ⟨_, rfl⟩
  obtain ⟨bad, hbad⟩ : ∃ b, b = r.isNone := ⟨_, rfl⟩
  rw [takeInt_eq, ← hs] at hK
  rw [← hs] at hr
  simp -implicitDefEqProofs [c_hurdleref03_TakeInt, rV, strV, ← hs, ← hbad]
  refine loop_nat c.mono (fun k T H' => ∃ (i u : Nat), i ≤ 10 ∧ i ≤ s.length ∧ k = 10 - i ∧ T 1 = .pointer (some ⟨H.next, 0, none⟩) ∧ T 2 = .pointer (some ⟨H.next + 1, 0, none⟩) ∧ T 4 = .int .u64 u ∧ T 5 = .int .i64 i ∧
    H.le H' ∧ H.next + 2 ≤ H'.next ∧ H'.get H.next = some (.cells [.string ⟨s.toArray⟩, .bool bad] false) ∧ H'.get (H.next + 1) = some (.cells [.string ⟨#[]⟩, .bool false] false) ∧
    (i = 10 ∧ dec 0 0 s = none ∨ i < 10 ∧ u < 128 ^ i ∧ dec 0 0 s = dec i u (s.drop i))) 10 ?_ ?_
  · refine ⟨0, 0, by omega, by omega, rfl, ?_⟩
    simp -implicitDefEqProofs []
    exact (H.le_alloc _).alloc _
  · rintro k T H' ⟨i, u, hi, his, rfl, t1, t2, t4, t5, hle, hn, g1, g2, hd⟩
    have hcap10 : ∀ q : Prop, (i = 10 → q) → (¬ i < 10 → q) := fun q h k => h (by omega)
    by_cases him : i < s.length ∧ i < 10
    · obtain ⟨him1, him2⟩ := him
      have him1' : (i : Int) < (s.length : Int) := by omega
      have him2' : (i : Int) < 10 := by omega
      obtain ⟨hi10, hu, hd⟩ := hd.resolve_left (by omega)
      have hsi : s[i]? = some s[i] := by simp
      obtain ⟨b, hbs⟩ : ∃ b, b = s[i] := ⟨_, rfl⟩
      rw [← hbs] at hsi
      have hdrop : s.drop i = b :: s.drop (i + 1) := by rw [hbs]; exact List.drop_eq_getElem_cons _
      have hb := b.toNat_lt
      have w1 : IntKind.u64.wrap ((b.toNat : Nat) : Int) = ((b.toNat : Nat) : Int) := wrapU (by omega) (by omega)
      have w2 : andW .u64 ((b.toNat : Nat) : Int) 127 = ((b.toNat % 128 : Nat) : Int) := by rw [← and127]; exact andU (a := b.toNat) (b := 127) (by omega) (by decide)
      have w3 : IntKind.i64.wrap (7 * (i : Int)) = 7 * (i : Int) := wrap64 (by omega) (by omega)
      have w3' : IntKind.u64.wrap (7 * (i : Int)) = 7 * (i : Int) := wrapU (by omega) (by omega)
      have w4 := shl7 (b.toNat % 128) i (by omega)
      have hp := pow128_le (i := i) (by omega)
      have w5 : orW .u64 (u : Int) ((b.toNat % 128 * 128 ^ i % 18446744073709551616 : Nat) : Int) = ((u ||| (b.toNat % 128 * 128 ^ i % 18446744073709551616) : Nat) : Int) := orU (by omega) (Nat.mod_lt _ (by omega))
      obtain ⟨V, hV⟩ : ∃ V, V = u ||| (b.toNat % 128 * 128 ^ i % 18446744073709551616) := ⟨_, rfl⟩
      rw [← hV] at w5
      obtain ⟨X, hX⟩ : ∃ X, X = b.toNat % 128 * 128 ^ i % 18446744073709551616 := ⟨_, rfl⟩
      rw [← hX] at w4 w5
      obtain ⟨y, hy⟩ : ∃ y, y = b.toNat := ⟨_, rfl⟩
      obtain ⟨z, hz⟩ : ∃ z, z = y % 128 := ⟨_, rfl⟩
      rw [← hy] at w1 w2 w4
      rw [← hz] at w2 w4
      have h7 : ¬ (7 * (i : Int) < 0) := by omega
      have w6 : IntKind.i64.wrap ((i : Int) + 1) = (i : Int) + 1 := wrap64 (by omega) (by omega)
      have hi1 : (i : Int) + 1 = ((i + 1 : Nat) : Int) := by omega
      have q9 : ((i : Int) = 9) = (i = 9) := by apply propext; omega
      have q0 : ((0 : Int) < (i : Int)) = (0 < i) := by apply propext; omega
      have p1 : ((1 : Int) < (y : Int)) = (1 < y) := by apply propext; omega
      have p0 : ((y : Int) = 0) = (y = 0) := by apply propext; omega
      have p128 : ((y : Int) < 128) = (y < 128) := by apply propext; omega
      by_cases hbad' : (i = 9 ∧ 1 < y) ∨ (0 < i ∧ y = 0)
      · have hnone : dec 0 0 s = none := by
          rw [hd, hdrop, dec]
          split
          · rw [if_pos (by omega)]
          · rw [if_pos (by omega)]
        rw [hnone] at hK
        have fin : ∀ H1, IHeap.le H' H1 → K (.tuple #[rV none, .int .i64 0]) (H1.set (H.next + 1) (.cells [.string ⟨#[]⟩, .bool true] false)) := fun H1 h1 => hK _ ((hle.trans h1).set (by omega) _)
        rcases hbad' with ⟨h9, h1y⟩ | ⟨hi0, hy0⟩
        · have e9 : (i = 9) = True := eq_true h9
          simp -implicitDefEqProofs [t1, t2, t4, t5, him1', him2', him1, him2, g1, g2, hsi, ← hbs, ← hy, w1, q9, e9, p1, h1y]
          refine call_of (refBad_ok c hc fun H1 h1 => ?_)
          have g2' := (h1.get (H.next + 1) (by omega)).trans g2
          simp -implicitDefEqProofs [rV, strV, rdS, t2, g2']
          exact fin _ h1
        · have e9 : (i = 9 ∧ 1 < y) = False := eq_false (by omega)
          have e0 : (y = 0) = True := eq_true hy0
          have ey1 : ¬ 1 < y := by omega
          by_cases h9 : i = 9
          · simp -implicitDefEqProofs [t1, t2, t4, t5, him1', him2', him1, him2, g1, g2, hsi, ← hbs, ← hy, w1, q9, eq_true h9, p1, ey1, q0, hi0, p0, e0]
            refine call_of (refBad_ok c hc fun H1 h1 => ?_)
            have g2' := (h1.get (H.next + 1) (by omega)).trans g2
            simp -implicitDefEqProofs [rV, strV, rdS, t2, g2']
            exact fin _ h1
          · simp -implicitDefEqProofs [t1, t2, t4, t5, him1', him2', him1, him2, g1, g2, hsi, ← hbs, ← hy, w1, q9, h9, p1, ey1, q0, hi0, p0, e0]
            refine call_of (refBad_ok c hc fun H1 h1 => ?_)
            have g2' := (h1.get (H.next + 1) (by omega)).trans g2
            simp -implicitDefEqProofs [rV, strV, rdS, t2, g2']
            exact fin _ h1
      · have hVe : V = u + b.toNat % 128 * 128 ^ i := by
          rw [hV]
          refine or_add hu ?_
          by_cases h9 : i = 9
          · subst h9
            have hx : b.toNat % 128 * 128 ^ 9 ≤ 1 * 128 ^ 9 := Nat.mul_le_mul_right _ (by omega)
            have e : (128 : Nat) ^ 9 = 9223372036854775808 := by decide
            omega
          · have hx : b.toNat % 128 * 128 ^ i ≤ 127 * 128 ^ i := Nat.mul_le_mul_right _ (by omega)
            have hp8 := pow128_le8 (i := i) (by omega)
            omega
        have cond : ((decide (i = 9) && decide (1 < y)) || (decide (0 < i) && decide (y = 0))) = false := by
          simp only [Bool.or_eq_false_iff, Bool.and_eq_false_iff, decide_eq_false_iff_not]; omega
        have key : ∀ (Q : Prop), ((i = 9) = True → ¬ 1 < y → ¬ y = 0 → 0 < i → Q) → (¬ i = 9 → (0 < i) → ¬ y = 0 → Q) → (¬ i = 9 → ¬ 0 < i → Q) → Q := by
          intro Q k1 k2 k3
          by_cases h9 : i = 9
          · exact k1 (eq_true h9) (by omega) (by omega) (by omega)
          · by_cases h0 : 0 < i
            · exact k2 h9 h0 (by omega)
            · exact k3 h9 h0
        by_cases h128 : y < 128
        · rw [hdrop, dec, if_neg (by omega), if_neg (by omega)] at hd
          rw [hd] at hK
          have hVe2 : u + b.toNat * 128 ^ i = V := by
            have : b.toNat % 128 = b.toNat := by omega
            rw [hVe, this]
          rw [hVe2] at hK
          have hVlt : V < 18446744073709551616 := by
            obtain ⟨b1, _⟩ := dec_bound s 0 0 V (i + 1) (by omega) (by omega) (by rw [hd, hVe2])
            exact b1
          have hsh := shrU1 V
          have hw2 : IntKind.i64.wrap (((V / 2 : Nat) : Int)) = ((V / 2 : Nat) : Int) := wrap64 (by omega) (by omega)
          have ha1 : andW .u64 (V : Int) 1 = ((V % 2 : Nat) : Int) := by rw [← and1]; exact andU (a := V) (b := 1) hVlt (by decide)
          obtain ⟨A, hA⟩ : ∃ A, A = V / 2 := ⟨_, rfl⟩
          obtain ⟨M, hM⟩ : ∃ M, M = V % 2 := ⟨_, rfl⟩
          rw [← hA] at hsh hw2
          rw [← hM] at ha1
          have p2 : ((M : Int) = 1) = (M = 1) := by apply propext; omega
          have hneg : IntKind.i64.wrap (-(A : Int)) = -(A : Int) := wrap64 (by omega) (by omega)
          have hneg2 : IntKind.i64.wrap (-(A : Int) - 1) = -(A : Int) - 1 := wrap64 (by omega) (by omega)
          have hdl : List.take (s.length - (i + 1)) (s.drop (i + 1)) = s.drop (i + 1) := List.take_of_length_le (by simp)
          have hi1' : (0 : Int) ≤ (i : Int) + 1 := by omega
          have hti : ((i : Int) + 1).toNat = i + 1 := by omega
          have hle1 : i + 1 ≤ s.length := by omega
          simp only [unzz, ← hA, ← hM, rV, strV, rdS, Option.isNone_some] at hK
          have hfin := hK (H'.set (H.next + 1) (.cells [.string ⟨(s.drop (i + 1)).toArray⟩, .bool false] false)) (hle.set (by omega) _)
          by_cases hm1 : M = 1
          · rw [if_neg (by omega)] at hfin
            apply key
            · intro k1 k2 k3 k4
              simp -implicitDefEqProofs [t1, t2, t4, t5, him1', him2', him1, him2, g1, g2, hsi, ← hbs, ← hy, w1, w2, w3, w3', w4, w5, w6, h7, q9, q0, p1, p0, p128, h128, k1, k2, k3, k4, hsh, hw2, ha1, p2, hm1, hneg, hneg2, boundsI, natI, hi1', hti, hle1, hdl]
              exact hfin
            · intro k1 k2 k3
              simp -implicitDefEqProofs [t1, t2, t4, t5, him1', him2', him1, him2, g1, g2, hsi, ← hbs, ← hy, w1, w2, w3, w3', w4, w5, w6, h7, q9, q0, p1, p0, p128, h128, k1, k2, k3, hsh, hw2, ha1, p2, hm1, hneg, hneg2, boundsI, natI, hi1', hti, hle1, hdl]
              exact hfin
            · intro k1 k2
              simp -implicitDefEqProofs [t1, t2, t4, t5, him1', him2', him1, him2, g1, g2, hsi, ← hbs, ← hy, w1, w2, w3, w3', w4, w5, w6, h7, q9, q0, p1, p0, p128, h128, k1, k2, hsh, hw2, ha1, p2, hm1, hneg, hneg2, boundsI, natI, hi1', hti, hle1, hdl]
              exact hfin
          · rw [if_pos (by omega)] at hfin
            apply key
            · intro k1 k2 k3 k4
              simp -implicitDefEqProofs [t1, t2, t4, t5, him1', him2', him1, him2, g1, g2, hsi, ← hbs, ← hy, w1, w2, w3, w3', w4, w5, w6, h7, q9, q0, p1, p0, p128, h128, k1, k2, k3, k4, hsh, hw2, ha1, p2, hm1, hneg, hneg2, boundsI, natI, hi1', hti, hle1, hdl]
              exact hfin
            · intro k1 k2 k3
              simp -implicitDefEqProofs [t1, t2, t4, t5, him1', him2', him1, him2, g1, g2, hsi, ← hbs, ← hy, w1, w2, w3, w3', w4, w5, w6, h7, q9, q0, p1, p0, p128, h128, k1, k2, k3, hsh, hw2, ha1, p2, hm1, hneg, hneg2, boundsI, natI, hi1', hti, hle1, hdl]
              exact hfin
            · intro k1 k2
              simp -implicitDefEqProofs [t1, t2, t4, t5, him1', him2', him1, him2, g1, g2, hsi, ← hbs, ← hy, w1, w2, w3, w3', w4, w5, w6, h7, q9, q0, p1, p0, p128, h128, k1, k2, hsh, hw2, ha1, p2, hm1, hneg, hneg2, boundsI, natI, hi1', hti, hle1, hdl]
              exact hfin
        · rw [hdrop, dec, if_pos (by omega)] at hd
          have hinv : i + 1 = 10 ∧ dec 0 0 s = none ∨ i + 1 < 10 ∧ V < 128 ^ (i + 1) ∧ dec 0 0 s = dec (i + 1) V (s.drop (i + 1)) := by
            by_cases h9 : 9 ≤ i
            · rw [if_pos h9] at hd
              exact .inl ⟨by omega, hd⟩
            · rw [if_neg h9] at hd
              have hp8 := pow128_le8 (i := i) (by omega)
              have hx : b.toNat % 128 * 128 ^ i ≤ 127 * 128 ^ i := Nat.mul_le_mul_right _ (by omega)
              have e1 : 128 ^ (i + 1) = 128 * 128 ^ i := by rw [Nat.pow_succ, Nat.mul_comm]
              have e2 : b.toNat - 128 = b.toNat % 128 := by omega
              rw [e2, ← hVe] at hd
              exact .inr ⟨by omega, by omega, hd⟩
          apply key
          · intro k1 k2 k3 k4
            simp -implicitDefEqProofs [t1, t2, t4, t5, him1', him2', him1, him2, g1, g2, hsi, ← hbs, ← hy, w1, w2, w3, w3', w4, w5, w6, h7, q9, q0, p1, p0, p128, h128, k1, k2, k3, k4]
            exact ⟨10 - (i + 1), by omega, i + 1, by omega, by omega, rfl, V, rfl, by simp, hle, hn, hinv⟩
          · intro k1 k2 k3
            simp -implicitDefEqProofs [t1, t2, t4, t5, him1', him2', him1, him2, g1, g2, hsi, ← hbs, ← hy, w1, w2, w3, w3', w4, w5, w6, h7, q9, q0, p1, p0, p128, h128, k1, k2, k3]
            exact ⟨10 - (i + 1), by omega, i + 1, by omega, by omega, rfl, V, rfl, by simp, hle, hn, hinv⟩
          · intro k1 k2
            simp -implicitDefEqProofs [t1, t2, t4, t5, him1', him2', him1, him2, g1, g2, hsi, ← hbs, ← hy, w1, w2, w3, w3', w4, w5, w6, h7, q9, q0, p1, p0, p128, h128, k1, k2]
            exact ⟨10 - (i + 1), by omega, i + 1, by omega, by omega, rfl, V, rfl, by simp, hle, hn, hinv⟩
    · have hnone : dec 0 0 s = none := by
        rcases hd with ⟨_, h⟩ | ⟨h1, _, h⟩
        · exact h
        · rw [h, List.drop_eq_nil_of_le (by omega)]; rfl
      rw [hnone] at hK
      have fin : ∀ H1, IHeap.le H' H1 → K (.tuple #[rV none, .int .i64 0]) (H1.set (H.next + 1) (.cells [.string ⟨#[]⟩, .bool true] false)) := fun H1 h1 => hK _ ((hle.trans h1).set (by omega) _)
      by_cases hil : i < s.length
      · have hil' : (i : Int) < (s.length : Int) := by omega
        have hi10 : ¬ i < 10 := by omega
        have hi10' : ¬ (i : Int) < 10 := by omega
        simp -implicitDefEqProofs [t1, t2, t4, t5, hil, hil', hi10, hi10', g1, g2]
        refine call_of (refBad_ok c hc fun H1 h1 => ?_)
        have g2' := (h1.get (H.next + 1) (by omega)).trans g2
        simp -implicitDefEqProofs [rV, strV, rdS, t2, g2']
        exact fin _ h1
      · have hil' : ¬ (i : Int) < (s.length : Int) := by omega
        simp -implicitDefEqProofs [t1, t2, t4, t5, hil, hil', g1, g2]
        refine call_of (refBad_ok c hc fun H1 h1 => ?_)
        have g2' := (h1.get (H.next + 1) (by omega)).trans g2
        simp -implicitDefEqProofs [rV, strV, rdS, t2, g2']
        exact fin _ h1

end
end Go.Proofs.YtndndcdblfejnaaGreatRI
namespace Go.Proofs.YtndndcdblfejnaaGreatRI
attribute [local simp] J0 J1 J2 J3 J4 J5 J6 J7 J8 J9 Ja Jb Jc Jd Je Jf Jg Jh Ji Jj Jk Jl Jm Jn Jo Jp Jq Jr Js Jt Ju Jv Jw Jx Jy Jz JA JB JC JD JE JF JG JH JI JJ JK JL JM JN JO JP JQ JR JS stillI IOp.kind JT JU JV JW JX JY JZ Y0 Y1 Y2 Y3 Y4 Y5 Y6 Y7 Y8 Y9 Ya Yb Yc Yd Ye Yf Yg Yh Yi Yj Yk Yl Ym Yn Yo Yp Yq ial Yr Ys Yt Yu Yv Yw Yx Yy ires iresL ires1 Yz YA YB YC YD YE bin2 YF YG YH YI YJ YK YL YM YN YO YP YQ YR YS YT YU un1 shOk eqL eq1 fillL putAt IHeap.load1 IHeap.loadL IHeap.storeL YV YW YX YY YZ B0 B1 B2 B3 B4 B5 B6 B7 B8 B9 Ba Bb Bc Bd Be Bf Bg Bh Bi Bj Bk Bl Bm Bn Bo Bp
set_option linter.unusedSimpArgs false
set_option linter.unusedVariables false
open Go

section
variable (c : Ctx) (hc : HasRef03 c) {H : IHeap} {K : Value → IHeap → Prop}
include hc

omit hc in
theorem rdS_some (s : List UInt8) : rdS (some s) = s := rfl
omit hc in
theorem takeInt_le {r : Rd} (h : (rdS r).length ≤ 1000000) : (rdS (takeInt r).1).length ≤ 1000000 := by
  rw [takeInt_eq]
  cases hd : dec 0 0 (rdS r) with
  | none => simp [rdS]
  | some y => show ((rdS r).drop _).length ≤ _; rw [List.length_drop]; omega
omit hc in
theorem takeN_le {r : Rd} {n : Int} (h : (rdS r).length ≤ 1000000) : (rdS (takeN n r).1).length ≤ 1000000 := by
  cases r with
  | none => simp [takeN, rdS]
  | some s => simp only [takeN]; split <;> simp [rdS] at h ⊢; omega
omit hc in
theorem takeText_le {r : Rd} (h : (rdS r).length ≤ 1000000) : (rdS (takeText r).1).length ≤ 1000000 := takeN_le (takeInt_le h)

theorem refTakeInts_ok {r : Rd} (hr : (rdS r).length ≤ 1000000) (hK : ∀ v' H', H.le H' → Grow H' H.next 1 v' ((takeList takeInt r).2.map rowI) → K (.tuple #[rV (takeList takeInt r).1, v']) H') : c.C (c.F n_hurdleref03_TakeInts) [rV r] H K := by
  refine c.enter hc.hurdleref03_TakeInts rfl ?_
  have hrl : ∀ r : Rd, rV r = .agg #[strV (rdS r), .bool r.isNone] := fun _ => rfl
  simp -implicitDefEqProofs [c_hurdleref03_TakeInts, rV]
  refine call_of (refTakeInt_ok c hc (r := r) hr fun H1 h1 => ?_)
  have n1 := h1.next
  simp only [YX] at n1
  have g2 : H1.get (H.next + 1) = some (.cells [.string ⟨#[]⟩, .bool false] false) := by
    rw [h1.get (H.next + 1) (by simp only [YX]; omega)]; simp -implicitDefEqProofs []
  have g1 : H1.get H.next = some (.cells [strV (rdS r), .bool r.isNone] false) := by
    rw [h1.get H.next (by simp only [YX]; omega)]; simp -implicitDefEqProofs []
  have hle1 : H.le H1 := ((H.le_alloc _).alloc _).trans h1
  have q1 : H.next ≠ H1.next := by omega
  have q2 : H.next + 1 ≠ H1.next := by omega
  rcases ht : takeInt r with ⟨x, n⟩
  simp only
  have hxl : (rdS x).length ≤ 1000000 := by
    have := takeInt_le hr
    rw [ht] at this; exact this
  have badcase : (x.isNone = true ∨ n < 0 ∨ ((rdS x).length : Int) < n) → takeList takeInt r = (none, []) := by
    intro h
    unfold takeList
    rw [ht]
    cases x with
    | none => rfl
    | some s => simp only [rdS, Option.isNone_some, Bool.false_eq_true, false_or] at h; simp only; rw [if_pos h]
  have fin0 : ∀ H', takeList takeInt r = (none, []) → H1.le H' → K (.tuple #[rV none, .slice none 0 0]) (H'.set (H.next + 1) (.cells [.string ⟨#[]⟩, .bool true] false)) := by
    intro H' e hl
    rw [e] at hK
    exact hK _ _ ((hle1.trans hl).set (by omega) _) (Grow.nil _ _ _)
  have a1 : ∀ o, H1.le ((H1.alloc o)) := fun o => H1.le_alloc o
  by_cases hx : x.isNone = true
  · simp -implicitDefEqProofs [rV, hx, q1, q2, g1, g2, strV]
    refine call_of (refBad_ok c hc fun H2 h2 => ?_)
    have g3 : H2.get (H.next + 1) = some (.cells [.string ⟨#[]⟩, .bool false] false) := by
      rw [h2.get (H.next + 1) (by simp only [YX, YY]; omega)]; simp -implicitDefEqProofs [q2, g2]
    simp -implicitDefEqProofs [rV, strV, rdS, g3]
    exact fin0 _ (badcase (.inl hx)) ⟨by have := h2.next; simp only [YX, YY] at this; omega, fun b hb => by
      have q3 : b ≠ H1.next := by omega
      rw [h2.get b (by simp only [YX, YY]; omega)]; simp -implicitDefEqProofs [q3]⟩
  · have hxf : x.isNone = false := Bool.eq_false_iff.2 hx
    by_cases hn0 : n < 0
    · simp -implicitDefEqProofs [rV, hxf, q1, q2, g1, g2, strV, hn0]
      refine call_of (refBad_ok c hc fun H2 h2 => ?_)
      have g3 : H2.get (H.next + 1) = some (.cells [.string ⟨#[]⟩, .bool false] false) := by
        rw [h2.get (H.next + 1) (by simp only [YX, YY]; omega)]; simp -implicitDefEqProofs [q2, g2]
      simp -implicitDefEqProofs [rV, strV, rdS, g3]
      exact fin0 _ (badcase (.inr (.inl hn0))) ⟨by have := h2.next; simp only [YX, YY] at this; omega, fun b hb => by
        have q3 : b ≠ H1.next := by omega
        rw [h2.get b (by simp only [YX, YY]; omega)]; simp -implicitDefEqProofs [q3]⟩
    · by_cases hn2 : ((rdS x).length : Int) < n
      · simp -implicitDefEqProofs [rV, hxf, q1, q2, g1, g2, strV, hn0, hn2]
        refine call_of (refBad_ok c hc fun H2 h2 => ?_)
        have g3 : H2.get (H.next + 1) = some (.cells [.string ⟨#[]⟩, .bool false] false) := by
          rw [h2.get (H.next + 1) (by simp only [YX, YY]; omega)]; simp -implicitDefEqProofs [q2, g2]
        simp -implicitDefEqProofs [rV, strV, rdS, g3]
        exact fin0 _ (badcase (.inr (.inr hn2))) ⟨by have := h2.next; simp only [YX, YY] at this; omega, fun b hb => by
          have q3 : b ≠ H1.next := by omega
          rw [h2.get b (by simp only [YX, YY]; omega)]; simp -implicitDefEqProofs [q3]⟩
      · obtain ⟨k, rfl⟩ : ∃ k : Nat, n = k := ⟨n.toNat, by omega⟩
        have e : takeList takeInt r = takeMany takeInt k [] x := by
          unfold takeList; rw [ht]; cases x with
          | none => simp at hxf
          | some s => simp only [rdS] at hn2; simp only; rw [if_neg (by omega)]; rfl
        rw [e] at hK
        simp -implicitDefEqProofs [rV, hxf, q1, q2, g1, g2, strV, hn0, hn2]
        refine loop_nat c.mono (fun m T H' => ∃ (i : Nat) (acc : List Int) (x' : Rd) (v' : Value), i ≤ k ∧ m = k - i ∧ T 2 = .pointer (some ⟨H.next + 1, 0, none⟩) ∧ T 4 = .pointer (some ⟨H1.next, 0, none⟩) ∧ T 5 = .int .i64 k ∧ T 6 = v' ∧ T 7 = .int .i64 i ∧
          H.le H' ∧ H1.next + 1 ≤ H'.next ∧ H'.get (H.next + 1) = some (.cells [.string ⟨#[]⟩, .bool false] false) ∧ H'.get H1.next = some (.cells [strV (rdS x'), .bool x'.isNone] false) ∧ (rdS x').length ≤ 1000000 ∧
          Grow H' (H1.next + 1) 1 v' (acc.map rowI) ∧ acc.length = i ∧ takeMany takeInt (k - i) acc x' = takeMany takeInt k [] x) k ?_ ?_
        · refine ⟨0, [], x, .slice none 0 0, by omega, rfl, ?_⟩
          simp -implicitDefEqProofs [q1, q2, g2, hxf, strV]
          exact ⟨(hle1.alloc _).set (by omega) _, hxl, Grow.nil _ _ _⟩
        · rintro m T H' ⟨i, acc, x', v', hi, rfl, t2, t4, t5, t6, t7, hle, hnn, g2', gx, hxl', hg, hacc, heq⟩
          by_cases hik : i < k
          · have hik' : (i : Int) < (k : Int) := by omega
            have hw : IntKind.i64.wrap ((i : Int) + 1) = (i : Int) + 1 := wrap64 (by omega) (by omega)
            obtain ⟨j, hj⟩ : ∃ j, k - i = j + 1 := ⟨k - i - 1, by omega⟩
            have hj2 : k - (i + 1) = j := by omega
            rw [hj, takeMany] at heq
            simp -implicitDefEqProofs [t2, t4, t5, t6, t7, hik', hik, gx]
            refine call_of (refTakeInt_ok c hc (r := x') hxl' fun H2 h2 => ?_)
            have n2 := h2.next
            have g2'' := (h2.get (H.next + 1) (by omega)).trans g2'
            have gx' := (h2.get H1.next (by omega)).trans gx
            have q3 : H.next + 1 ≠ H2.next := by omega
            have q4 : H1.next ≠ H2.next := by omega
            have q5 : H1.next ≠ H.next + 1 := by omega
            rcases hy : takeInt x' with ⟨y, a⟩
            have hyl : (rdS y).length ≤ 1000000 := by
              have := takeInt_le hxl'
              rw [hy] at this; exact this
            rw [hy] at heq
            simp only [rV]
            cases y with
            | none =>
              simp only at heq
              simp -implicitDefEqProofs [t2, t4, g2'', gx', q3, q4, q5, strV, rdS]
              rw [← heq] at hK
              refine hK _ _ ?_ (Grow.nil _ _ _)
              exact (((hle.trans h2).alloc _).set (by omega) _).set (by omega) _
            | some s =>
              simp only at heq
              simp -implicitDefEqProofs [t2, t4, t6, g2'', gx', q3, q4, q5, rdS_some, Option.isNone_some, lenOfI, firstI, IHeap.loadL]
              obtain ⟨G, hG⟩ : ∃ G : IHeap, G = ((((H2.alloc (.cells [.string ⟨#[]⟩, .bool false] false)).set H2.next (.cells [strV s, .bool false] false)).set H1.next (.cells [strV s, .bool false] false)).alloc (.cells (rowI a) false)) := ⟨_, rfl⟩
              have upG : IHeap.upd [H1.next] H' G := by
                rw [hG]; exact ((((h2.upd [H1.next]).alloc _).set (.inl (by omega)) _).set (.inr (by simp)) _).alloc _
              have nG : G.next = H2.next + 1 + 1 := by rw [hG]; simp only [YX, YY]
              have gG1 : G.get (H.next + 1) = some (.cells [.string ⟨#[]⟩, .bool false] false) := (upG.get _ (by omega) (by simpa using q2)).trans g2'
              have gG2 : G.get H1.next = some (.cells [strV s, .bool false] false) := by
                have q6 : H1.next ≠ H2.next + 1 := by omega
                rw [hG]; simp -implicitDefEqProofs [q6]
              have leG : H.le G := by
                rw [hG]; exact ((((hle.trans h2).alloc _).set (by omega) _).set (by omega) _).alloc _
              obtain ⟨v3, H3, e3, o3, k3⟩ := (hg.upd (S := [H1.next]) upG (by simp)).append1 (bytes := 8) (new := rowI a) (by omega) (by omega) (by omega) (by simp; omega) (by simp; omega) rfl rfl
              simp only [hG, rowI] at e3
              simp -implicitDefEqProofs [e3, t2, t4, t5, t6, t7, hw]
              refine ⟨k - (i + 1), by omega, i + 1, by omega, rfl, by simp, leG.then k3 (by omega), by have := k3.next; omega, (k3.get _ (by omega)).trans gG1, acc ++ [a], some s, (k3.get _ (by omega)).trans gG2, hyl, by rw [List.map_append]; exact o3, by simp [hacc], ?_⟩
              rw [hj2]; exact heq
          · have hie : i = k := by omega
            subst hie
            rw [Nat.sub_self, takeMany] at heq
            simp -implicitDefEqProofs [t2, t4, t5, t6, t7, gx, g2', strV]
            rw [← heq] at hK
            exact hK _ _ (hle.set (by omega) _) ((hg.upd (S := [H.next + 1]) ((IHeap.upd_refl _ _).set (.inr (by simp)) _) (by simp; omega)).weak (by omega))

end
end Go.Proofs.YtndndcdblfejnaaGreatRI
namespace Go.Proofs.YtndndcdblfejnaaGreatRI
attribute [local simp] J0 J1 J2 J3 J4 J5 J6 J7 J8 J9 Ja Jb Jc Jd Je Jf Jg Jh Ji Jj Jk Jl Jm Jn Jo Jp Jq Jr Js Jt Ju Jv Jw Jx Jy Jz JA JB JC JD JE JF JG JH JI JJ JK JL JM JN JO JP JQ JR JS stillI IOp.kind JT JU JV JW JX JY JZ Y0 Y1 Y2 Y3 Y4 Y5 Y6 Y7 Y8 Y9 Ya Yb Yc Yd Ye Yf Yg Yh Yi Yj Yk Yl Ym Yn Yo Yp Yq ial Yr Ys Yt Yu Yv Yw Yx Yy ires iresL ires1 Yz YA YB YC YD YE bin2 YF YG YH YI YJ YK YL YM YN YO YP YQ YR YS YT YU un1 shOk eqL eq1 fillL putAt IHeap.load1 IHeap.loadL IHeap.storeL YV YW YX YY YZ B0 B1 B2 B3 B4 B5 B6 B7 B8 B9 Ba Bb Bc Bd Be Bf Bg Bh Bi Bj Bk Bl Bm Bn Bo Bp
set_option linter.unusedSimpArgs false
set_option linter.unusedVariables false
open Go

section
variable (c : Ctx) (hc : HasRef01 c) {H : IHeap} {K : Value → IHeap → Prop}
include hc

theorem refInts01_ok {l m : List Int} {u v : Value} (hu : SlR H 1 u (l.map rowI)) (hv : SlR H 1 v (m.map rowI)) (hl : l.length ≤ 1000000000) (hK : K (.bool (decide (l = m))) H) : c.C (c.F n_hurdleref01_Ints) [u, v] H K := by
  refine c.enter hc.hurdleref01_Ints rfl ?_
  have hu' := hu
  have hv' := hv
  obtain ⟨a, cap, rfl, _⟩ := hu
  obtain ⟨a2, cap2, rfl, _⟩ := hv
  simp only [List.length_map] at hu' hv' ⊢
  by_cases hlen : l.length = m.length
  · simp -implicitDefEqProofs [c_hurdleref01_Ints, hlen]
    refine loop_nat c.mono (fun k T H' => ∃ i : Nat, i ≤ l.length ∧ k = l.length - i ∧ T 0 = .slice a m.length cap ∧ T 1 = .slice a2 m.length cap2 ∧ T 5 = .int .i64 i ∧ H' = H ∧ l.take i = m.take i) l.length ?_ ?_
    · exact ⟨0, by omega, rfl, by simp -implicitDefEqProofs [], by simp -implicitDefEqProofs [], by simp -implicitDefEqProofs [], rfl, rfl⟩
    · rintro k T H' ⟨i, hi, rfl, t0, t1, t5, rfl, heq⟩
      by_cases hil : i < l.length
      · have him : i < m.length := by omega
        obtain ⟨b, o, cp, cs, ro, e1, hb, hget, hat⟩ := hu'.at1 (i := i) (x := .int .i64 l[i]) (by simp [hil, rowI])
        obtain ⟨b2, o2, cp2, cs2, ro2, e2, hb2, hget2, hat2⟩ := hv'.at1 (i := i) (x := .int .i64 m[i]) (by simp [him, rowI])
        simp only [Value.slice.injEq] at e1 e2
        obtain ⟨rfl, -, rfl⟩ := e1
        obtain ⟨rfl, -, rfl⟩ := e2
        have hic : (i : Int) < (m.length : Int) := by omega
        have hw : IntKind.i64.wrap ((i : Int) + 1) = (i : Int) + 1 := wrap64 (by omega) (by omega)
        by_cases hx : l[i] = m[i]
        · simp -implicitDefEqProofs [t0, t1, t5, hic, him, hget, hget2, hat, hat2, hx, hw]
          refine ⟨l.length - (i + 1), by omega, i + 1, by omega, rfl, by simp, ?_⟩
          rw [List.take_add_one, List.take_add_one, heq, List.getElem?_eq_getElem hil, List.getElem?_eq_getElem him, hx]
        · simp -implicitDefEqProofs [t0, t1, t5, hic, him, hget, hget2, hat, hat2, hx, hw]
          have : decide (l = m) = false := decide_eq_false (by rintro rfl; exact hx rfl)
          rw [this] at hK
          exact hK
      · have him : ¬ i < m.length := by omega
        have hic : ¬ (i : Int) < (m.length : Int) := by omega
        simp -implicitDefEqProofs [t0, t1, t5, hic, him]
        rw [List.take_of_length_le (by omega), List.take_of_length_le (by omega)] at heq
        have : decide (l = m) = true := decide_eq_true heq
        rw [this] at hK
        exact hK
  · have hlen' : ¬ (l.length : Int) = (m.length : Int) := by omega
    simp -implicitDefEqProofs [c_hurdleref01_Ints, hlen, hlen']
    have : decide (l = m) = false := decide_eq_false (by rintro rfl; exact hlen rfl)
    rw [this] at hK
    exact hK

end
end Go.Proofs.YtndndcdblfejnaaGreatRI
