/- Taking bytes: what each function does. / What is read is what was laid, and the other way about: plain laws. -/
import Derived.Test.YtndndcdblfejnaaGreatRCodecWM
namespace Go.Proofs.YtndndcdblfejnaaGreatRI
attribute [local simp] J0 J1 J2 J3 J4 J5 J6 J7 J8 J9 Ja Jb Jc Jd Je Jf Jg Jh Ji Jj Jk Jl Jm Jn Jo Jp Jq Jr Js Jt Ju Jv Jw Jx Jy Jz JA JB JC JD JE JF JG JH JI JJ JK JL JM JN JO JP JQ JR JS stillI IOp.kind JT JU JV JW JX JY JZ Y0 Y1 Y2 Y3 Y4 Y5 Y6 Y7 Y8 Y9 Ya Yb Yc Yd Ye Yf Yg Yh Yi Yj Yk Yl Ym Yn Yo Yp Yq ial Yr Ys Yt Yu Yv Yw Yx Yy ires iresL ires1 Yz YA YB YC YD YE bin2 YF YG YH YI YJ YK YL YM YN YO YP YQ YR YS YT YU un1 shOk eqL eq1 fillL putAt IHeap.load1 IHeap.loadL IHeap.storeL YV YW YX YY YZ B0 B1 B2 B3 B4 B5 B6 B7 B8 B9 Ba Bb Bc Bd Be Bf Bg Bh Bi Bj Bk Bl Bm Bn Bo Bp
set_option linter.unusedSimpArgs false
set_option linter.unusedVariables false
open Go

abbrev Rd := Option (List UInt8)
def rdC : Rd → List Value
  | some s => [strV s, .bool false]
  | none => [strV [], .bool true]
def rdS : Rd → List UInt8
  | some s => s
  | none => []
/-- A reader, where it stands. -/
def IsR (H : IHeap) (p : Nat) (r : Rd) : Prop := p < H.next ∧ (rdS r).length ≤ 1000000 ∧ H.get p = some (.cells (rdC r) false)

def takeInt : Rd → Rd × Int
  | none => (none, 0)
  | some s => match dec 0 0 s with
    | some (u, n) => (some (s.drop n), unzz u)
    | none => (none, 0)
def takeN (n : Int) : Rd → Rd × List UInt8 × Bool
  | none => (none, [], false)
  | some s => if n < 0 ∨ (s.length : Int) < n then (none, [], false) else (some (s.drop n.toNat), s.take n.toNat, true)
def takeByte : Rd → Rd × Int
  | some (b :: s) => (some s, b.toNat)
  | _ => (none, 0)
def takeText (r : Rd) : Rd × List UInt8 := ((takeN (takeInt r).2 (takeInt r).1).1, (takeN (takeInt r).2 (takeInt r).1).2.1)
/-- So many, one by one, behind others; none, if something fails. -/
def takeMany {α : Type} (one : Rd → Rd × α) : Nat → List α → Rd → Rd × List α
  | 0, acc, r => (r, acc)
  | n + 1, acc, r => match one r with
    | (none, _) => (none, [])
    | (some s, a) => takeMany one n (acc ++ [a]) (some s)
def takeList {α : Type} (one : Rd → Rd × α) (r : Rd) : Rd × List α :=
  match takeInt r with
  | (none, _) => (none, [])
  | (some s, n) => if n < 0 ∨ (s.length : Int) < n then (none, []) else takeMany one n.toNat [] (some s)

section
variable (c : Ctx) (hc : HasCodec c) {H : IHeap} {K : Value → IHeap → Prop}
include hc

theorem NewReader_ok {s : List UInt8} (hs : s.length ≤ 1000000) (hK : ∀ p H', H.next ≤ p → H.le H' → IsR H' p (some s) → K (.pointer (some ⟨p, 0, none⟩)) H') : c.C (c.F n_codec_NewReader) [strV s] H K := by
  refine c.enter hc.codec_NewReader rfl ?_
  simp -implicitDefEqProofs [c_codec_NewReader, strV]
  refine hK _ _ (Nat.le_refl _) (H.le_alloc _) ⟨by simp [YX], hs, ?_⟩
  simp -implicitDefEqProofs [rdC, strV]

theorem fail_ok {p : Nat} {r : Rd} (hr : IsR H p r) (hK : ∀ H', IHeap.upd [p] H H' → IsR H' p none → K (.tuple #[]) H') : c.C (c.F n_codec_Reader_fail) [.pointer (some ⟨p, 0, none⟩)] H K := by
  refine c.enter hc.codec_Reader_fail rfl ?_
  obtain ⟨h1, h2, h3⟩ := hr
  have fin : ∀ s b, H.get p = some (.cells [.string s, .bool b] false) → iwp c.P c.C (c_codec_Reader_fail c.F c.Ty).body (retR (c_codec_Reader_fail c.F c.Ty).results K) (envOf [.pointer (some ⟨p, 0, none⟩)]) H := by
    intro s b h
    simp -implicitDefEqProofs [c_codec_Reader_fail, nilOf, h]
    refine hK _ (((IHeap.upd_refl _ _).set (.inr (by simp)) _).set (.inr (by simp)) _) ⟨h1, by simp [rdS], ?_⟩
    simp -implicitDefEqProofs [rdC, strV]
  cases r with
  | none => exact fin _ _ h3
  | some s => exact fin _ _ h3

theorem take_ok {p : Nat} {r : Rd} {n : Int} (hr : IsR H p r) (hK : ∀ H', IHeap.upd [p] H H' → IsR H' p (takeN n r).1 → K (.tuple #[strV (takeN n r).2.1, .bool (takeN n r).2.2]) H') :
    c.C (c.F n_codec_Reader_take) [.pointer (some ⟨p, 0, none⟩), .int .i64 n] H K := by
  refine c.enter hc.codec_Reader_take rfl ?_
  have hr' := hr
  obtain ⟨h1, h2, h3⟩ := hr
  cases r with
  | none =>
    simp only [rdC, strV] at h3
    simp -implicitDefEqProofs [c_codec_Reader_take, nilOf, h3]
    refine call_of (fail_ok c hc hr' fun H' u' r' => ?_)
    simp -implicitDefEqProofs []
    exact hK _ u' r'
  | some s =>
    simp only [rdC, strV] at h3
    by_cases hn : n < 0
    · have e : takeN n (some s) = (none, [], false) := by simp [takeN, hn]
      rw [e] at hK
      simp -implicitDefEqProofs [c_codec_Reader_take, nilOf, h3, hn]
      refine call_of (fail_ok c hc hr' fun H' u' r' => ?_)
      simp -implicitDefEqProofs []
      exact hK _ u' r'
    · by_cases hn2 : (s.length : Int) < n
      · have e : takeN n (some s) = (none, [], false) := by simp [takeN, hn2]
        rw [e] at hK
        simp -implicitDefEqProofs [c_codec_Reader_take, nilOf, h3, hn, hn2]
        refine call_of (fail_ok c hc hr' fun H' u' r' => ?_)
        simp -implicitDefEqProofs []
        exact hK _ u' r'
      · have e : takeN n (some s) = (some (s.drop n.toNat), s.take n.toNat, true) := by show (if n < 0 ∨ (s.length : Int) < n then _ else _) = _; rw [if_neg (by omega)]
        rw [e] at hK
        have hn0 : 0 ≤ n := by omega
        have hn3 : n.toNat ≤ s.length := by omega
        have hdt : List.take (s.length - n.toNat) (List.drop n.toNat s) = List.drop n.toNat s := List.take_of_length_le (by simp)
        simp -implicitDefEqProofs [c_codec_Reader_take, nilOf, h3, hn, hn2, boundsI, natI, hn0, hn3, strV, hdt]
        refine hK _ ((IHeap.upd_refl _ _).set (.inr (by simp)) _) ⟨h1, by simp [rdS] at h2 ⊢; omega, ?_⟩
        simp -implicitDefEqProofs [rdC, strV]

omit hc in
theorem shl7 (x i : Nat) (hi : i ≤ 9) : shlW .u64 (x : Int) (7 * (i : Int)) = ((x * 128 ^ i % 18446744073709551616 : Nat) : Int) := by
  have e1 : min (7 * (i : Int)).toNat IntKind.u64.bits = 7 * i := by
    show min (7 * (i : Int)).toNat 64 = 7 * i
    omega
  have e2 : (2 : Int) ^ (7 * i) = ((128 ^ i : Nat) : Int) := by
    rw [Int.pow_mul]; simp
  unfold shlW
  rw [e1, e2, wrapU_mod]
  omega
omit hc in
theorem or_add {u x i : Nat} (hu : u < 128 ^ i) (hx : x * 128 ^ i < 18446744073709551616) : u ||| (x * 128 ^ i % 18446744073709551616) = u + x * 128 ^ i := by
  rw [Nat.mod_eq_of_lt hx, Nat.or_comm]
  have e : 128 ^ i = 2 ^ (7 * i) := by rw [Nat.pow_mul]
  rw [e] at hu ⊢
  rw [Nat.mul_comm, ← Nat.two_pow_add_eq_or_of_lt hu]; omega
omit hc in
theorem pow128_le {i : Nat} (hi : i ≤ 9) : 128 ^ i ≤ 9223372036854775808 := by
  have hp : 128 ^ i ≤ 128 ^ 9 := Nat.pow_le_pow_right (by omega) hi
  have e : (128 : Nat) ^ 9 = 9223372036854775808 := by decide
  omega
omit hc in
theorem pow128_le8 {i : Nat} (hi : i ≤ 8) : 128 ^ i ≤ 72057594037927936 := by
  have hp : 128 ^ i ≤ 128 ^ 8 := Nat.pow_le_pow_right (by omega) hi
  have e : (128 : Nat) ^ 8 = 72057594037927936 := by decide
  omega

theorem groups_ok {s : List UInt8} (hK : K (.tuple #[.int .u64 (((dec 0 0 s).getD (0, 0)).1 : Nat), .int .i64 (((dec 0 0 s).getD (0, 0)).2 : Nat)]) H) : c.C (c.F n_codec_groups) [strV s] H K := by
  refine c.enter hc.codec_groups rfl ?_
  obtain ⟨mm, hmm⟩ : ∃ mm : Nat, mm = min s.length 10 := ⟨_, rfl⟩
  have hm9 : (if (10 : Int) < (s.length : Int) then (10 : Int) else (s.length : Int)) = (mm : Int) := by split <;> omega
  simp -implicitDefEqProofs [c_codec_groups, strV, hm9]
  refine loop_nat c.mono (fun k T H' => ∃ (i u : Nat), H' = H ∧ i ≤ 10 ∧ i ≤ s.length ∧ k = 10 - i ∧ T 0 = strV s ∧ T 4 = .int .u64 u ∧ T 9 = .int .i64 mm ∧ T 10 = .int .i64 i ∧ (i = 10 ∧ dec 0 0 s = none ∨ i < 10 ∧ u < 128 ^ i ∧ dec 0 0 s = dec i u (s.drop i))) 10 ?_ ?_
  · refine ⟨0, 0, rfl, by omega, by omega, rfl, ?_⟩
    simp -implicitDefEqProofs [strV]
  · rintro k T H' ⟨i, u, rfl, hi, his, rfl, t0, t4, t9, t10, hd⟩
    by_cases him : i < mm
    · have him' : (i : Int) < (mm : Int) := by omega
      obtain ⟨hi10, hu, hd⟩ := hd.resolve_left (by omega)
      have hsi : s[i]? = some s[i] := by simp
      obtain ⟨b, hbs⟩ : ∃ b, b = s[i] := ⟨_, rfl⟩
      rw [← hbs] at hsi
      have hdrop : s.drop i = b :: s.drop (i + 1) := by rw [hbs]; exact List.drop_eq_getElem_cons _
      have hb := b.toNat_lt
      have w1 : IntKind.u64.wrap ((b.toNat : Nat) : Int) = ((b.toNat : Nat) : Int) := wrapU (by omega) (by omega)
      have w2 : andW .u64 ((b.toNat : Nat) : Int) 127 = ((b.toNat % 128 : Nat) : Int) := by rw [← and127]; exact andU (a := b.toNat) (b := 127) (by omega) (by decide)
      have w3 : IntKind.i64.wrap (7 * (i : Int)) = 7 * (i : Int) := wrap64 (by omega) (by omega)
      have w4 := shl7 (b.toNat % 128) i (by omega)
      have hp := pow128_le (i := i) (by omega)
      have w5 : orW .u64 (u : Int) ((b.toNat % 128 * 128 ^ i % 18446744073709551616 : Nat) : Int) = ((u ||| (b.toNat % 128 * 128 ^ i % 18446744073709551616) : Nat) : Int) := orU (by omega) (Nat.mod_lt _ (by omega))
      obtain ⟨V, hV⟩ : ∃ V, V = u ||| (b.toNat % 128 * 128 ^ i % 18446744073709551616) := ⟨_, rfl⟩
      rw [← hV] at w5
      obtain ⟨X, hX⟩ : ∃ X, X = b.toNat % 128 * 128 ^ i % 18446744073709551616 := ⟨_, rfl⟩
      rw [← hX] at w4 w5
      obtain ⟨y, hy⟩ : ∃ y, y = b.toNat := ⟨_, rfl⟩
      obtain ⟨z, hz⟩ : ∃ z, z = y % 128 := ⟨_, rfl⟩
      rw [← hy] at w1 w2 w4
      rw [← hz] at w2 w4
      have h7 : ¬ (7 * (i : Int) < 0) := by omega
      have w6 : IntKind.i64.wrap ((i : Int) + 1) = (i : Int) + 1 := wrap64 (by omega) (by omega)
      by_cases h128 : 128 ≤ y
      · have h128' : (128 : Int) ≤ (y : Int) := by omega
        simp -implicitDefEqProofs [t0, t4, t9, t10, him', him, strV, hsi, ← hy, w1, w2, w3, w4, w5, w6, h7, h128', h128]
        refine ⟨10 - (i + 1), by omega, i + 1, by omega, by omega, rfl, V, rfl, by simp, ?_⟩
        rw [hdrop, dec, if_pos (by omega)] at hd
        by_cases h9 : 9 ≤ i
        · rw [if_pos h9] at hd
          exact .inl ⟨by omega, hd⟩
        · rw [if_neg h9] at hd
          have hp8 := pow128_le8 (i := i) (by omega)
          have hx : b.toNat % 128 * 128 ^ i ≤ 127 * 128 ^ i := Nat.mul_le_mul_right _ (by omega)
          have hVe : V = u + b.toNat % 128 * 128 ^ i := by rw [hV]; exact or_add hu (by omega)
          have e1 : 128 ^ (i + 1) = 128 * 128 ^ i := by rw [Nat.pow_succ, Nat.mul_comm]
          have e2 : b.toNat - 128 = b.toNat % 128 := by omega
          rw [e2, ← hVe] at hd
          exact .inr ⟨by omega, by omega, hd⟩
      · have h128' : ¬ (128 : Int) ≤ (y : Int) := by omega
        rw [hdrop, dec, if_neg (by omega)] at hd
        have hzy : z = y := by omega
        by_cases hbad : (0 < i ∧ b.toNat = 0) ∨ (i = 9 ∧ 1 < b.toNat)
        · rw [if_pos hbad] at hd
          rw [hd] at hK
          by_cases hi0 : 0 < i
          · have hi0' : (0 : Int) < (i : Int) := by omega
            by_cases hy0 : y = 0
            · have q1 : (y = 0) = True := eq_true hy0
              have q2 : ((y : Int) = 0) = True := eq_true (by omega)
              simp -implicitDefEqProofs [t0, t4, t9, t10, him', him, strV, hsi, ← hy, w1, w2, w3, w4, w5, w6, h7, h128', h128, hi0', hi0, q1, q2]
              exact hK
            · have hi9 : i = 9 := by omega
              have hy0' : ¬ (y : Int) = 0 := by omega
              have hy1 : (1 : Int) < (y : Int) := by omega
              have hy1' : 1 < y := by omega
              have q1 : (i = 9) = True := eq_true hi9
              have q2 : ((i : Int) = 9) = True := eq_true (by omega)
              simp -implicitDefEqProofs [t0, t4, t9, t10, him', him, strV, hsi, ← hy, w1, w2, w3, w4, w5, w6, h7, h128', h128, hi0', hi0, hy0', hy0, hy1, hy1', q1, q2]
              exact hK
          · omega
        · rw [if_neg hbad] at hd
          rw [hd] at hK
          have hVe : V = u + b.toNat * 128 ^ i := by
            have hbm : b.toNat % 128 = b.toNat := by omega
            rw [hbm] at hV
            rw [hV]
            refine or_add hu ?_
            by_cases h9 : i = 9
            · subst h9
              have hx : b.toNat * 128 ^ 9 ≤ 1 * 128 ^ 9 := Nat.mul_le_mul_right _ (by omega)
              have e : (128 : Nat) ^ 9 = 9223372036854775808 := by decide
              omega
            · have hx : b.toNat * 128 ^ i ≤ 127 * 128 ^ i := Nat.mul_le_mul_right _ (by omega)
              have hp8 := pow128_le8 (i := i) (by omega)
              omega
          rw [← hVe] at hK
          have fin : K (.tuple #[.int .u64 (V : Int), .int .i64 ((i : Int) + 1)]) H' := by simpa using hK
          by_cases hi0 : 0 < i
          · have hi0' : (0 : Int) < (i : Int) := by omega
            have hy0 : ¬ y = 0 := by omega
            have hy0' : ¬ (y : Int) = 0 := by omega
            by_cases h9 : i = 9
            · have hy1 : ¬ (1 : Int) < (y : Int) := by omega
              have hy1' : ¬ 1 < y := by omega
              have q1 : (i = 9) = True := eq_true h9
              have q2 : ((i : Int) = 9) = True := eq_true (by omega)
              simp -implicitDefEqProofs [t0, t4, t9, t10, him', him, strV, hsi, ← hy, w1, w2, w3, w4, w5, w6, h7, h128', h128, hi0', hi0, hy0', hy0, hy1, hy1', q1, q2]
              exact fin
            · have h9' : ¬ (i : Int) = 9 := by omega
              simp -implicitDefEqProofs [t0, t4, t9, t10, him', him, strV, hsi, ← hy, w1, w2, w3, w4, w5, w6, h7, h128', h128, hi0', hi0, hy0', hy0, h9, h9']
              exact fin
          · have hi0' : ¬ (0 : Int) < (i : Int) := by omega
            have h9 : ¬ i = 9 := by omega
            have h9' : ¬ (i : Int) = 9 := by omega
            simp -implicitDefEqProofs [t0, t4, t9, t10, him', him, strV, hsi, ← hy, w1, w2, w3, w4, w5, w6, h7, h128', h128, hi0, hi0', h9, h9']
            exact fin
    · have him' : ¬ (i : Int) < (mm : Int) := by omega
      have hnone : dec 0 0 s = none := by
        rcases hd with ⟨_, h⟩ | ⟨h1, _, h⟩
        · exact h
        · rw [h, List.drop_eq_nil_of_le (by omega)]; rfl
      rw [hnone] at hK
      simp -implicitDefEqProofs [t0, t4, t9, t10, him', him]
      exact hK

omit hc in
theorem xorI {a : Nat} (h : a < 9223372036854775808) : xorW .i64 (a : Int) 0 = (a : Int) ∧ xorW .i64 (a : Int) (-1) = -(a : Int) - 1 := by
  constructor
  · show IntKind.i64.wrap (((BitVec.ofInt 64 (a : Int) ^^^ BitVec.ofInt 64 0).toNat : Nat) : Int) = _
    have e : (BitVec.ofInt 64 (a : Int) ^^^ BitVec.ofInt 64 0).toNat = a := by
      rw [BitVec.toNat_xor, BitVec.ofInt_natCast, BitVec.toNat_ofNat, Nat.mod_eq_of_lt (by omega)]
      simp
    rw [e]; exact wrap64 (by omega) (by omega)
  · show IntKind.i64.wrap (((BitVec.ofInt 64 (a : Int) ^^^ BitVec.ofInt 64 (-1)).toNat : Nat) : Int) = _
    have e : (BitVec.ofInt 64 (a : Int) ^^^ BitVec.ofInt 64 (-1)).toNat = 18446744073709551615 - a := by
      have : BitVec.ofInt 64 (-1) = BitVec.ofNat 64 18446744073709551615 := by decide
      rw [this, BitVec.ofInt_natCast]
      exact xor_ones a (by omega)
    rw [e]
    have e1 : (2 ^ IntKind.i64.bits : Int) = 18446744073709551616 := by decide
    have e2 : (2 ^ (IntKind.i64.bits - 1) : Int) = 9223372036854775808 := by decide
    unfold IntKind.wrap
    simp only [e1, e2, IntKind.signed, Bool.true_and]
    rw [if_pos (by simp; omega)]
    omega
omit hc in
theorem unzzW {u : Nat} (h : u < 18446744073709551616) : xorW .i64 (IntKind.i64.wrap (shrW .u64 (u : Int) 1)) (IntKind.i64.wrap (0 - IntKind.i64.wrap (andW .u64 (u : Int) 1))) = unzz u := by
  have e1 : andW .u64 (u : Int) 1 = ((u % 2 : Nat) : Int) := by rw [← and1]; exact andU (a := u) (b := 1) h (by decide)
  rw [shrU1, e1, wrap64 (n := ((u / 2 : Nat) : Int)) (by omega) (by omega), wrap64 (n := ((u % 2 : Nat) : Int)) (by omega) (by omega), wrap64 (by omega) (by omega)]
  obtain ⟨x0, x1⟩ := xorI (a := u / 2) (by omega)
  unfold unzz
  by_cases hu : u % 2 = 0
  · rw [if_pos hu, hu]; exact x0
  · have hu1 : u % 2 = 1 := by omega
    rw [if_neg hu, hu1]; exact x1

omit hc in
theorem IsR.keep {H H' : IHeap} {B p : Nat} {r : Rd} (h : IsR H p r) (hk : IHeap.keep B H H') (hp : p < B) : IsR H' p r := ⟨Nat.lt_of_lt_of_le h.1 hk.next, h.2.1, (hk.get p hp).trans h.2.2⟩
omit hc in
theorem IsR.le {H H' : IHeap} {p : Nat} {r : Rd} (h : IsR H p r) (hk : H.le H') : IsR H' p r := ⟨Nat.lt_of_lt_of_le h.1 hk.next, h.2.1, (hk.get p h.1).trans h.2.2⟩
theorem RInt_ok {p : Nat} {r : Rd} (hr : IsR H p r) (hK : ∀ H', IHeap.upd [p] H H' → IsR H' p (takeInt r).1 → K (.int .i64 (takeInt r).2) H') :
    c.C (c.F n_codec_Reader_Int) [.pointer (some ⟨p, 0, none⟩)] H K := by
  refine c.enter hc.codec_Reader_Int rfl ?_
  have hr' := hr
  obtain ⟨h1, h2, h3⟩ := hr
  cases r with
  | none =>
    simp only [rdC] at h3
    simp -implicitDefEqProofs [c_codec_Reader_Int, nilOf, h3]
    refine call_of (groups_ok c hc ?_)
    simp -implicitDefEqProofs [dec]
    refine call_of (fail_ok c hc hr' fun H' u' r' => ?_)
    simp -implicitDefEqProofs []
    exact hK _ u' r'
  | some s =>
    simp only [rdC] at h3
    simp -implicitDefEqProofs [c_codec_Reader_Int, nilOf, h3]
    refine call_of (groups_ok c hc ?_)
    cases hd : dec 0 0 s with
    | none =>
      have e : takeInt (some s) = (none, 0) := by simp [takeInt, hd]
      rw [e] at hK
      simp -implicitDefEqProofs []
      refine call_of (fail_ok c hc hr' fun H' u' r' => ?_)
      simp -implicitDefEqProofs []
      exact hK _ u' r'
    | some x =>
      obtain ⟨u, n⟩ := x
      have e : takeInt (some s) = (some (s.drop n), unzz u) := by simp [takeInt, hd]
      obtain ⟨b1, b2, b3, b4⟩ := dec_bound s 0 0 u n (by omega) (by omega) hd
      have hn0 : ¬ (n : Int) = 0 := by omega
      have hn0' : ¬ n = 0 := by omega
      have et : takeN (n : Int) (some s) = (some (s.drop n), s.take n, true) := by
        show (if (n : Int) < 0 ∨ (s.length : Int) < (n : Int) then _ else _) = _
        rw [if_neg (by omega)]; rfl
      rw [e] at hK
      simp -implicitDefEqProofs [hn0, hn0']
      refine call_of (take_ok c hc hr' fun H' u' r' => ?_)
      rw [et] at r' ⊢
      have hz := unzzW b1
      simp only [Int.zero_sub] at hz
      simp -implicitDefEqProofs [hz]
      exact hK _ u' r'

theorem RByte_ok {p : Nat} {r : Rd} (hr : IsR H p r) (hK : ∀ H', IHeap.upd [p] H H' → IsR H' p (takeByte r).1 → K (.int .i64 (takeByte r).2) H') :
    c.C (c.F n_codec_Reader_Byte) [.pointer (some ⟨p, 0, none⟩)] H K := by
  refine c.enter hc.codec_Reader_Byte rfl ?_
  simp -implicitDefEqProofs [c_codec_Reader_Byte]
  refine call_of (take_ok c hc hr fun H' u' r' => ?_)
  match r, hr, r', hK with
  | none, hr, r', hK =>
    simp -implicitDefEqProofs [takeN]
    exact hK _ u' r'
  | some [], hr, r', hK =>
    simp -implicitDefEqProofs [takeN]
    exact hK _ u' r'
  | some (b :: s), hr, r', hK =>
    have et : takeN 1 (some (b :: s)) = (some s, [b], true) := by
      simp only [takeN, List.length_cons]
      rw [if_neg (by omega)]; rfl
    have hb := b.toNat_lt
    have hw : IntKind.i64.wrap ((b.toNat : Nat) : Int) = ((b.toNat : Nat) : Int) := wrap64 (by omega) (by omega)
    rw [et] at r' ⊢
    simp -implicitDefEqProofs [strV, hw]
    exact hK _ u' r'

def rowI (n : Int) : List Value := [.int .i64 n]
def rowS (t : List UInt8) : List Value := [strV t]

omit hc in
theorem takeInt_len {r : Rd} {s : List UInt8} {n : Int} (h : takeInt r = (some s, n)) : -9223372036854775808 ≤ n ∧ n < 9223372036854775808 := by
  cases r with
  | none => simp [takeInt] at h
  | some t =>
    simp only [takeInt] at h
    cases hd : dec 0 0 t with
    | none => rw [hd] at h; simp at h
    | some x =>
      obtain ⟨u, k⟩ := x
      rw [hd] at h
      simp only [Prod.mk.injEq] at h
      obtain ⟨-, rfl⟩ := h
      obtain ⟨b1, _⟩ := dec_bound t 0 0 u k (by omega) (by omega) hd
      unfold unzz
      split <;> omega

omit hc in
theorem rdC_eq (r : Rd) : rdC r = [strV (rdS r), .bool r.isNone] := by cases r <;> rfl

theorem list_int_ok {p : Nat} {r : Rd} (hr : IsR H p r) (hK : ∀ v' H', IHeap.upd [p] H H' → IsR H' p (takeList takeInt r).1 → Grow H' H.next 1 v' ((takeList takeInt r).2.map rowI) → K v' H') :
    c.C (c.F n_codec_list_int) [.pointer (some ⟨p, 0, none⟩), .func (.func (c.F n_codec_Reader_Int)) #[.pointer (some ⟨p, 0, none⟩)] #[]] H K := by
  refine c.enter hc.codec_list_int rfl ?_
  have hpn := hr.1
  simp -implicitDefEqProofs [c_codec_list_int]
  refine call_of (RInt_ok c hc hr fun H1 u1 r1 => ?_)
  have hn1 := u1.next
  rcases ht : takeInt r with ⟨x, n⟩
  rw [ht] at r1
  have h3 := r1.2.2
  have h2 := r1.2.1
  simp only at h3 h2
  rw [rdC_eq] at h3
  simp only [strV] at h3
  by_cases hn0 : n < 0
  · have e : takeList takeInt r = (none, []) := by
      unfold takeList; rw [ht]; cases x with
      | none => rfl
      | some s => simp only; rw [if_pos (.inl hn0)]
    rw [e] at hK
    simp -implicitDefEqProofs [nilOf, h3, hn0]
    refine call_of (fail_ok c hc r1 fun H' u' r' => ?_)
    simp -implicitDefEqProofs []
    exact hK _ _ (u1.trans u') r' (Grow.nil _ _ _)
  · by_cases hn2 : ((rdS x).length : Int) < n
    · have e : takeList takeInt r = (none, []) := by
        unfold takeList; rw [ht]; cases x with
        | none => rfl
        | some s => simp only; rw [if_pos (.inr hn2)]
      rw [e] at hK
      simp -implicitDefEqProofs [nilOf, h3, hn0, hn2]
      refine call_of (fail_ok c hc r1 fun H' u' r' => ?_)
      simp -implicitDefEqProofs []
      exact hK _ _ (u1.trans u') r' (Grow.nil _ _ _)
    · obtain ⟨k, rfl⟩ : ∃ k : Nat, n = k := ⟨n.toNat, by omega⟩
      have e : takeList takeInt r = takeMany takeInt k [] x := by
        unfold takeList; rw [ht]; cases x with
        | none =>
          simp only [rdS, List.length_nil] at hn2
          obtain rfl : k = 0 := by omega
          rfl
        | some s => simp only [rdS] at hn2; simp only; rw [if_neg (by omega)]; rfl
      rw [e] at hK
      simp -implicitDefEqProofs [nilOf, h3, hn0, hn2]
      refine loop_nat c.mono (fun m T H' => ∃ (i : Nat) (acc : List Int) (x' : Rd) (v' : Value), i ≤ k ∧ m = k - i ∧ T 0 = .pointer (some ⟨p, 0, none⟩) ∧ T 1 = .func (.func (c.F n_codec_Reader_Int)) #[.pointer (some ⟨p, 0, none⟩)] #[] ∧ T 6 = v' ∧ T 26 = .int .i64 k ∧ T 27 = .int .i64 i ∧
        Grow H' H.next 1 v' (acc.map rowI) ∧ IHeap.upd [p] H H' ∧ IsR H' p x' ∧ acc.length = i ∧ takeMany takeInt (k - i) acc x' = takeMany takeInt k [] x) k ?_ ?_
      · refine ⟨0, [], x, .slice none 0 0, by omega, rfl, ?_⟩
        simp -implicitDefEqProofs []
        exact ⟨Grow.nil _ _ _, u1, r1⟩
      · rintro m T H' ⟨i, acc, x', v', hi, rfl, t0, t1, t6, t26, t27, hg, hu, hx, hacc, heq⟩
        by_cases hik : i < k
        · have hik' : (i : Int) < (k : Int) := by omega
          have hx2 := hx.2.1
          have hw : IntKind.i64.wrap ((i : Int) + 1) = (i : Int) + 1 := wrap64 (by omega) (by omega)
          obtain ⟨j, hj⟩ : ∃ j, k - i = j + 1 := ⟨k - i - 1, by omega⟩
          have hj2 : k - (i + 1) = j := by omega
          rw [hj, takeMany] at heq
          simp -implicitDefEqProofs [t0, t1, t6, t26, t27, hik', hik]
          refine call_of (RInt_ok c hc hx fun H2 u2 r2 => ?_)
          rcases hy : takeInt x' with ⟨y, a⟩
          rw [hy] at r2 heq
          have hn2 := u2.next
          have hn' := hu.next
          have g2 := (hg.upd (S := [p]) u2 (by simpa using hpn)).le (H2.le_alloc (.cells (rowI a) false))
          obtain ⟨v3, H3, e3, o3, k3⟩ := g2.append1 (bytes := 8) (new := rowI a) (by simp only [YX]; omega) (by omega) (by omega) (by simp; omega) (by simp; omega) rfl rfl
          have k3' : IHeap.keep H.next H2 H3 := ((H2.le_alloc _).keep (by omega)).trans k3
          have r3 := r2.keep k3' hpn
          have h5 := r3.2.2
          simp only at h5
          rw [rdC_eq] at h5
          simp only [strV] at h5
          simp only [rowI, strV] at e3
          simp -implicitDefEqProofs [t0, t1, t6, t26, t27, hik', hik, lenOfI, firstI, IHeap.loadL, e3, strV]
          have u3 : IHeap.upd [p] H H3 := (hu.trans u2).keepTrans k3' (Nat.le_refl _)
          cases y with
          | none =>
            simp only at heq
            simp -implicitDefEqProofs [h5]
            rw [← heq] at hK
            exact hK _ _ u3 r3 (Grow.nil _ _ _)
          | some s =>
            simp only at heq
            simp -implicitDefEqProofs [h5, t27, t26, t0, t1, hw]
            refine ⟨k - (i + 1), by omega, i + 1, by omega, rfl, by simp, acc ++ [a], by rw [List.map_append]; exact o3, u3, some s, r3, by simp [hacc], ?_⟩
            rw [hj2]; exact heq
        · have hie : i = k := by omega
          subst hie
          rw [Nat.sub_self, takeMany] at heq
          simp -implicitDefEqProofs [t0, t1, t6, t26, t27]
          rw [← heq] at hK
          exact hK _ _ hu hx hg

theorem RInts_ok {p : Nat} {r : Rd} (hr : IsR H p r) (hK : ∀ v' H', IHeap.upd [p] H H' → IsR H' p (takeList takeInt r).1 → Grow H' H.next 1 v' ((takeList takeInt r).2.map rowI) → K v' H') :
    c.C (c.F n_codec_Reader_Ints) [.pointer (some ⟨p, 0, none⟩)] H K := by
  refine c.enter hc.codec_Reader_Ints rfl ?_
  simp -implicitDefEqProofs [c_codec_Reader_Ints]
  refine call_of (list_int_ok c hc hr fun v' H' u' r' g' => ?_)
  simp -implicitDefEqProofs []
  exact hK _ _ u' r' g'
def rdE (r : Rd) : Int := if r = some [] then 0 else 3
theorem RDone_ok {p : Nat} {r : Rd} (hr : IsR H p r) (hK : K (.int .i64 (rdE r)) H) : c.C (c.F n_codec_Reader_Done) [.pointer (some ⟨p, 0, none⟩)] H K := by
  refine c.enter hc.codec_Reader_Done rfl ?_
  have h3 := hr.2.2
  rw [rdC_eq] at h3
  simp only [strV] at h3
  unfold rdE at hK
  match r, hK, h3 with
  | none, hK, h3 =>
    simp -implicitDefEqProofs [c_codec_Reader_Done, nilOf, h3]
    simpa using hK
  | some [], hK, h3 =>
    simp -implicitDefEqProofs [c_codec_Reader_Done, nilOf, h3, rdS, str2]
    simpa using hK
  | some (b :: s), hK, h3 =>
    simp -implicitDefEqProofs [c_codec_Reader_Done, nilOf, h3, rdS, str2]
    simpa using hK

/-! no reader -/
theorem RInt_none (hK : K (.int .i64 0) H) : c.C (c.F n_codec_Reader_Int) [.pointer none] H K := by
  refine c.enter hc.codec_Reader_Int rfl ?_
  simp -implicitDefEqProofs [c_codec_Reader_Int, nilOf]
  exact hK
theorem fail_none (hK : K (.tuple #[]) H) : c.C (c.F n_codec_Reader_fail) [.pointer none] H K := by
  refine c.enter hc.codec_Reader_fail rfl ?_
  simp -implicitDefEqProofs [c_codec_Reader_fail, nilOf]
  exact hK
theorem take_none {n : Value} (hK : K (.tuple #[strV [], .bool false]) H) : c.C (c.F n_codec_Reader_take) [.pointer none, n] H K := by
  refine c.enter hc.codec_Reader_take rfl ?_
  simp -implicitDefEqProofs [c_codec_Reader_take, nilOf]
  refine call_of (fail_none c hc ?_)
  simp -implicitDefEqProofs []
  exact hK
theorem RByte_none (hK : K (.int .i64 0) H) : c.C (c.F n_codec_Reader_Byte) [.pointer none] H K := by
  refine c.enter hc.codec_Reader_Byte rfl ?_
  simp -implicitDefEqProofs [c_codec_Reader_Byte]
  refine call_of (take_none c hc ?_)
  simp -implicitDefEqProofs []
  exact hK
theorem list_int_none {f : Value} (hK : K (.slice none 0 0) H) : c.C (c.F n_codec_list_int) [.pointer none, f] H K := by
  refine c.enter hc.codec_list_int rfl ?_
  simp -implicitDefEqProofs [c_codec_list_int]
  refine call_of (RInt_none c hc ?_)
  simp -implicitDefEqProofs [nilOf]
  refine call_of (fail_none c hc ?_)
  simp -implicitDefEqProofs []
  exact hK
theorem RInts_none (hK : K (.slice none 0 0) H) : c.C (c.F n_codec_Reader_Ints) [.pointer none] H K := by
  refine c.enter hc.codec_Reader_Ints rfl ?_
  simp -implicitDefEqProofs [c_codec_Reader_Ints]
  refine call_of (list_int_none c hc ?_)
  simp -implicitDefEqProofs []
  exact hK
theorem RDone_none (hK : K (.int .i64 1) H) : c.C (c.F n_codec_Reader_Done) [.pointer none] H K := by
  refine c.enter hc.codec_Reader_Done rfl ?_
  simp -implicitDefEqProofs [c_codec_Reader_Done, nilOf]
  exact hK

end
end Go.Proofs.YtndndcdblfejnaaGreatRI
namespace Go.Proofs.YtndndcdblfejnaaGreatRI
set_option linter.unusedSimpArgs false
set_option linter.unusedVariables false
open Go

theorem takeInt_inv {r : Rd} {s' : List UInt8} {n : Int} (h : takeInt r = (some s', n)) : r = some (encI n ++ s') := by
  cases r with
  | none => simp [takeInt] at h
  | some s =>
    simp only [takeInt] at h
    cases hd : dec 0 0 s with
    | none => rw [hd] at h; simp at h
    | some x =>
      obtain ⟨u, k⟩ := x
      rw [hd] at h
      simp only [Prod.mk.injEq, Option.some.injEq] at h
      obtain ⟨rfl, rfl⟩ := h
      rw [encI_dec hd, List.take_append_drop]
theorem takeText_inv {r : Rd} {s' t : List UInt8} (h : takeText r = (some s', t)) : r = some (encI t.length ++ t ++ s') := by
  unfold takeText at h
  rcases hx : takeInt r with ⟨x, n⟩
  rw [hx] at h
  cases x with
  | none => simp [takeN] at h
  | some s =>
    simp only [takeN] at h
    by_cases hc : n < 0 ∨ (s.length : Int) < n
    · rw [if_pos hc] at h; simp at h
    · rw [if_neg hc] at h
      simp only [Prod.mk.injEq, Option.some.injEq] at h
      obtain ⟨rfl, rfl⟩ := h
      rw [takeInt_inv hx, List.append_assoc, List.take_append_drop]
      have : ((List.take n.toNat s).length : Int) = n := by rw [List.length_take]; omega
      rw [this]
theorem takeMany_inv {α : Type} {one : Rd → Rd × α} {f : α → List UInt8} {p : α → Prop} (h1 : ∀ r s' a, one r = (some s', a) → r = some (f a ++ s') ∧ p a) :
    ∀ (k : Nat) (acc l : List α) (r : Rd) (s' : List UInt8), takeMany one k acc r = (some s', l) → ∃ l2, l = acc ++ l2 ∧ l2.length = k ∧ r = some ((l2.map f).flatten ++ s') ∧ ∀ a ∈ l2, p a
  | 0, acc, l, r, s', h => by
    simp only [takeMany, Prod.mk.injEq] at h
    obtain ⟨rfl, rfl⟩ := h
    exact ⟨[], by simp, rfl, by simp, by simp⟩
  | k + 1, acc, l, r, s', h => by
    rw [takeMany] at h
    rcases hx : one r with ⟨x, a⟩
    rw [hx] at h
    cases x with
    | none => simp at h
    | some s =>
      simp only at h
      obtain ⟨e1, pa⟩ := h1 r s a hx
      obtain ⟨l2, rfl, e3, e4, e5⟩ := takeMany_inv h1 k _ l _ s' h
      simp only [Option.some.injEq] at e4
      refine ⟨a :: l2, by simp, by simp [e3], ?_, ?_⟩
      · rw [e1, e4]; simp
      · intro b hb
        rcases List.mem_cons.1 hb with rfl | hb
        · exact pa
        · exact e5 b hb
theorem takeList_inv {α : Type} {one : Rd → Rd × α} {f : α → List UInt8} {p : α → Prop} (h1 : ∀ r s' a, one r = (some s', a) → r = some (f a ++ s') ∧ p a)
    {l : List α} {r : Rd} {s' : List UInt8} (h : takeList one r = (some s', l)) : r = some (encI l.length ++ (l.map f).flatten ++ s') ∧ ∀ a ∈ l, p a := by
  unfold takeList at h
  rcases hx : takeInt r with ⟨x, n⟩
  rw [hx] at h
  cases x with
  | none => simp at h
  | some s =>
    simp only at h
    by_cases hc : n < 0 ∨ (s.length : Int) < n
    · rw [if_pos hc] at h; simp at h
    · rw [if_neg hc] at h
      obtain ⟨l2, e1, e2, e3, e4⟩ := takeMany_inv h1 _ _ _ _ _ h
      simp only [List.nil_append] at e1
      subst e1
      simp only [Option.some.injEq] at e3
      refine ⟨?_, e4⟩
      have : (l.length : Int) = n := by omega
      rw [takeInt_inv hx, this, e3, List.append_assoc]

theorem takeInt_lay {n : Int} (h1 : -9223372036854775808 ≤ n) (h2 : n < 9223372036854775808) (t : List UInt8) : takeInt (some (encI n ++ t)) = (some t, n) := by
  simp only [takeInt, dec_encI h1 h2, List.drop_left, unzz_zz]
theorem takeText_lay {x : List UInt8} (hx : x.length ≤ 1000000000) (t : List UInt8) : takeText (some (encI x.length ++ x ++ t)) = (some t, x) := by
  unfold takeText
  rw [List.append_assoc, takeInt_lay (by omega) (by omega)]
  simp only [takeN]
  rw [if_neg (by simp; omega)]
  simp
theorem takeMany_lay {α : Type} {one : Rd → Rd × α} {f : α → List UInt8} {p : α → Prop} (h1 : ∀ a t, p a → one (some (f a ++ t)) = (some t, a)) :
    ∀ (l acc : List α) (t : List UInt8), (∀ a ∈ l, p a) → takeMany one l.length acc (some ((l.map f).flatten ++ t)) = (some t, acc ++ l)
  | [], acc, t, _ => by simp [takeMany]
  | a :: l, acc, t, h => by
    rw [List.length_cons, takeMany, List.map_cons, List.flatten_cons, List.append_assoc, h1 a _ (h a (by simp))]
    simp only
    rw [takeMany_lay h1 l (acc ++ [a]) t fun b hb => h b (by simp [hb])]
    simp
theorem takeList_lay {α : Type} {one : Rd → Rd × α} {f : α → List UInt8} {p : α → Prop} (h1 : ∀ a t, p a → one (some (f a ++ t)) = (some t, a)) (hne : ∀ a, f a ≠ [])
    {l : List α} (hl : l.length ≤ 1000000000) (h : ∀ a ∈ l, p a) (t : List UInt8) : takeList one (some (encI l.length ++ (l.map f).flatten ++ t)) = (some t, l) := by
  have hlen : l.length ≤ ((l.map f).flatten ++ t).length := by
    have : ∀ l : List α, l.length ≤ ((l.map f).flatten).length := fun l => by
      induction l with
      | nil => simp
      | cons a l ih =>
        have := List.length_pos_iff.2 (hne a)
        simp only [List.length_cons, List.map_cons, List.flatten_cons, List.length_append]; omega
    have := this l
    rw [List.length_append]; omega
  unfold takeList
  rw [List.append_assoc, takeInt_lay (by omega) (by omega)]
  simp only
  rw [if_neg (by omega), Int.toNat_natCast, takeMany_lay h1 l [] t h]
  simp

def okI (n : Int) : Prop := -9223372036854775808 ≤ n ∧ n < 9223372036854775808
theorem ints_inv : ∀ r s' a, takeInt r = (some s', a) → r = some (encI a ++ s') ∧ okI a := fun _ _ _ h => ⟨takeInt_inv h, takeInt_len h⟩
theorem texts_inv : ∀ r s' (a : List UInt8), takeText r = (some s', a) → r = some ((encI a.length ++ a) ++ s') ∧ True := fun _ _ _ h => ⟨takeText_inv h, trivial⟩
theorem ints_lay : ∀ a t, okI a → takeInt (some (encI a ++ t)) = (some t, a) := fun _ t h => takeInt_lay h.1 h.2 t
theorem texts_lay : ∀ (a t : List UInt8), a.length ≤ 1000000000 → takeText (some ((encI a.length ++ a) ++ t)) = (some t, a) := fun _ t h => takeText_lay h t

theorem strV_data (x : ByteArray) : .string x = strV x.data.toList := by simp [strV]

end Go.Proofs.YtndndcdblfejnaaGreatRI
