/- Numbers as bytes: plain laws. -/
import Derived.Test.YtfegliplajdgmaaSlices
import Derived.Test.YtfegliplajdgmaaPartRef01D
namespace Go.Proofs.YtfegliplajdgmaaI
set_option linter.unusedSimpArgs false
set_option linter.unusedVariables false
open Go

def u8V (x : UInt8) : Value := .int .u8 (x.toNat : Nat)
def rowU (x : UInt8) : List Value := [u8V x]

/-- A number's groups of 7 bits. -/
def enc (u : Nat) : List UInt8 := if u < 128 then [UInt8.ofNat u] else UInt8.ofNat (u % 128 + 128) :: enc (u / 128)
termination_by u
decreasing_by omega

def zz (n : Int) : Nat := if 0 ≤ n then (2 * n).toNat else (-2 * n - 1).toNat
def unzz (u : Nat) : Int := if u % 2 = 0 then ((u / 2 : Nat) : Int) else -((u / 2 : Nat) : Int) - 1
def encI (n : Int) : List UInt8 := enc (zz n)

theorem unzz_zz (n : Int) : unzz (zz n) = n := by
  unfold zz unzz
  split <;> split <;> omega
theorem zz_unzz (u : Nat) : zz (unzz u) = u := by
  unfold zz unzz
  split <;> split <;> omega
theorem zz_lt {n : Int} (h1 : -9223372036854775808 ≤ n) (h2 : n < 9223372036854775808) : zz n < 18446744073709551616 := by
  unfold zz
  split <;> omega

theorem enc_small {u : Nat} (h : u < 128) : enc u = [UInt8.ofNat u] := by rw [enc, if_pos h]
theorem enc_big {u : Nat} (h : ¬ u < 128) : enc u = UInt8.ofNat (u % 128 + 128) :: enc (u / 128) := by rw [enc, if_neg h]
theorem enc_ne (u : Nat) : enc u ≠ [] := by rw [enc]; split <;> simp
theorem enc_len : ∀ (k u : Nat), u < 128 ^ (k + 1) → (enc u).length ≤ k + 1
  | 0, u, h => by rw [enc_small (by simpa using h)]; simp
  | k + 1, u, h => by
    by_cases hu : u < 128
    · rw [enc_small hu]; simp
    · rw [enc_big hu]
      have := enc_len k (u / 128) (by rw [Nat.pow_succ] at h; omega)
      simp; omega
theorem encI_len {n : Int} (h1 : -9223372036854775808 ≤ n) (h2 : n < 9223372036854775808) : (encI n).length ≤ 10 :=
  enc_len 9 _ (by have := zz_lt h1 h2; have e : (128 : Nat) ^ (9 + 1) = 1180591620717411303424 := by decide
                  omega)
theorem encI_ne (n : Int) : encI n ≠ [] := enc_ne _

/-- A number of bytes: the number, and how many bytes it has. -/
def dec (i u : Nat) : List UInt8 → Option (Nat × Nat)
  | [] => none
  | b :: s =>
    if 128 ≤ b.toNat then (if 9 ≤ i then none else dec (i + 1) (u + (b.toNat - 128) * 128 ^ i) s)
    else if (0 < i ∧ b.toNat = 0) ∨ (i = 9 ∧ 1 < b.toNat) then none
    else some (u + b.toNat * 128 ^ i, i + 1)

theorem dec_bound : ∀ (s : List UInt8) (i u w n : Nat), i ≤ 9 → u < 128 ^ i → dec i u s = some (w, n) → w < 18446744073709551616 ∧ i < n ∧ n ≤ i + s.length ∧ n ≤ 10
  | [], _, _, _, _, _, _, h => by simp [dec] at h
  | b :: s, i, u, w, n, hi, hu, h => by
    have hb := b.toNat_lt
    rw [dec] at h
    split at h
    · split at h
      · cases h
      · have e : 128 ^ (i + 1) = 128 * 128 ^ i := by rw [Nat.pow_succ, Nat.mul_comm]
        have hx : (b.toNat - 128) * 128 ^ i ≤ 127 * 128 ^ i := Nat.mul_le_mul_right _ (by omega)
        have := dec_bound s (i + 1) _ w n (by omega) (by omega) h
        simp only [List.length_cons]; omega
    · split at h
      · cases h
      · rename_i h1 h2
        simp only [Option.some.injEq, Prod.mk.injEq] at h
        obtain ⟨rfl, rfl⟩ := h
        simp only [List.length_cons]
        refine ⟨?_, by omega, by omega, by omega⟩
        by_cases h9 : i = 9
        · subst h9
          have : b.toNat ≤ 1 := by omega
          have hx : b.toNat * 128 ^ 9 ≤ 1 * 128 ^ 9 := Nat.mul_le_mul_right _ this
          have e : (128 : Nat) ^ 9 = 9223372036854775808 := by decide
          omega
        · have hx : b.toNat * 128 ^ i ≤ 127 * 128 ^ i := Nat.mul_le_mul_right _ (by omega)
          have hp : 128 ^ i ≤ 128 ^ 8 := Nat.pow_le_pow_right (by omega) (by omega)
          have e : (128 : Nat) ^ 8 = 72057594037927936 := by decide
          omega

/-- What is read is what was laid. -/
theorem dec_enc : ∀ (k i u w : Nat) (t : List UInt8), i + k = 10 → 1 ≤ k → w * 128 ^ i < 18446744073709551616 → (w = 0 → i = 0) → dec i u (enc w ++ t) = some (u + w * 128 ^ i, i + (enc w).length)
  | 0, _, _, _, _, _, h, _, _ => by omega
  | k + 1, i, u, w, t, hk, _, hw, h0 => by
    by_cases hs : w < 128
    · rw [enc_small hs]
      have e : (UInt8.ofNat w).toNat = w := by simp; omega
      simp only [List.cons_append, List.nil_append, dec, e, List.length_singleton]
      rw [if_neg (by omega), if_neg]
      rintro (⟨h1, h2⟩ | ⟨h1, h2⟩)
      · have := h0 h2; omega
      · subst h1
        have hx : 2 * 128 ^ 9 ≤ w * 128 ^ 9 := Nat.mul_le_mul_right _ (by omega)
        have e : (128 : Nat) ^ 9 = 9223372036854775808 := by decide
        omega
    · rw [enc_big hs]
      have e : (UInt8.ofNat (w % 128 + 128)).toNat = w % 128 + 128 := by simp; omega
      have hi : ¬ 9 ≤ i := by
        intro h9
        have : i = 9 := by omega
        subst this
        have hx : 128 * 128 ^ 9 ≤ w * 128 ^ 9 := Nat.mul_le_mul_right _ (by omega)
        have e : (128 : Nat) ^ 9 = 9223372036854775808 := by decide
        omega
      simp only [List.cons_append, dec, e, List.length_cons]
      rw [if_pos (by omega), if_neg hi]
      have e1 : 128 ^ (i + 1) = 128 * 128 ^ i := by rw [Nat.pow_succ, Nat.mul_comm]
      have e2 : w / 128 * 128 ^ (i + 1) = (w / 128 * 128) * 128 ^ i := by rw [e1, Nat.mul_assoc]
      have e3 : w * 128 ^ i = (w / 128 * 128) * 128 ^ i + (w % 128) * 128 ^ i := by rw [← Nat.add_mul]; congr 1; omega
      rw [dec_enc k (i + 1) _ (w / 128) t (by omega) (by omega) (by omega) (by omega)]
      simp only [Option.some.injEq, Prod.mk.injEq]
      refine ⟨?_, by omega⟩
      have : w % 128 + 128 - 128 = w % 128 := by omega
      rw [this]; omega

/-- Bytes that are read are just those of the number. -/
theorem enc_dec : ∀ (s : List UInt8) (i u w n : Nat), dec i u s = some (w, n) → ∃ v, w = u + v * 128 ^ i ∧ enc v = s.take (n - i) ∧ (v = 0 → i = 0)
  | [], _, _, _, _, h => by simp [dec] at h
  | b :: s, i, u, w, n, h => by
    have hb := b.toNat_lt
    rw [dec] at h
    split at h
    · split at h
      · cases h
      · rename_i h1 h9
        obtain ⟨v, rfl, h3, h4⟩ := enc_dec s (i + 1) _ w n h
        have hv : v ≠ 0 := fun h => by have := h4 h; omega
        have e1 : 128 ^ (i + 1) = 128 * 128 ^ i := by rw [Nat.pow_succ, Nat.mul_comm]
        refine ⟨b.toNat - 128 + v * 128, ?_, ?_, by omega⟩
        · rw [e1, Nat.add_mul, ← Nat.mul_assoc]; omega
        · rw [enc_big (by omega)]
          have q1 : (b.toNat - 128 + v * 128) % 128 + 128 = b.toNat := by omega
          have q2 : (b.toNat - 128 + v * 128) / 128 = v := by omega
          have hn : ∃ m, n - i = m + 1 ∧ n - (i + 1) = m := by
            by_cases hz : n - (i + 1) = 0
            · rw [hz, List.take_zero] at h3; exact absurd h3 (enc_ne _)
            · exact ⟨n - (i + 1), by omega, rfl⟩
          obtain ⟨m, hm1, hm2⟩ := hn
          rw [q1, q2, h3, hm1, hm2, List.take_succ_cons]
          simp
    · split at h
      · cases h
      · rename_i h1 h2
        simp only [Option.some.injEq, Prod.mk.injEq] at h
        obtain ⟨rfl, rfl⟩ := h
        refine ⟨b.toNat, rfl, ?_, by omega⟩
        rw [enc_small (by omega)]
        have : i + 1 - i = 1 := by omega
        rw [this]
        simp

theorem dec_encI {n : Int} (h1 : -9223372036854775808 ≤ n) (h2 : n < 9223372036854775808) (t : List UInt8) : dec 0 0 (encI n ++ t) = some (zz n, (encI n).length) := by
  have := dec_enc 10 0 0 (zz n) t rfl (by omega) (by simpa using zz_lt h1 h2) (by simp)
  simpa [encI] using this
theorem encI_dec {s : List UInt8} {u n : Nat} (h : dec 0 0 s = some (u, n)) : encI (unzz u) = s.take n := by
  obtain ⟨v, rfl, h2, _⟩ := enc_dec s 0 0 u n h
  unfold encI
  rw [zz_unzz]
  simpa using h2

/-! ### the machine's words -/

theorem wrapU {n : Int} (h : 0 ≤ n) (k : n < 18446744073709551616) : IntKind.u64.wrap n = n := by
  have e1 : (2 ^ IntKind.u64.bits : Int) = 18446744073709551616 := by decide
  unfold IntKind.wrap
  simp only [e1, IntKind.signed, Bool.false_and]
  rw [if_neg (by simp)]
  omega
theorem wrapU_mod (n : Int) : IntKind.u64.wrap n = n % 18446744073709551616 := by
  have e1 : (2 ^ IntKind.u64.bits : Int) = 18446744073709551616 := by decide
  unfold IntKind.wrap
  simp only [e1, IntKind.signed, Bool.false_and]
  rw [if_neg (by simp)]
theorem wrapB_mod (n : Int) : IntKind.u8.wrap n = n % 256 := by
  have e1 : (2 ^ IntKind.u8.bits : Int) = 256 := by decide
  unfold IntKind.wrap
  simp only [e1, IntKind.signed, Bool.false_and]
  rw [if_neg (by simp)]

theorem bv64 (a : Nat) (h : a < 18446744073709551616) : BitVec.ofInt IntKind.u64.bits (a : Int) = BitVec.ofNat 64 a := by
  show BitVec.ofInt 64 (a : Int) = _
  simp
theorem xor_ones (a : Nat) (h : a < 18446744073709551616) : (BitVec.ofNat 64 a ^^^ BitVec.ofNat 64 18446744073709551615).toNat = 18446744073709551615 - a := by
  have : (BitVec.ofNat 64 18446744073709551615) = BitVec.allOnes 64 := by decide
  rw [this, BitVec.xor_allOnes, BitVec.toNat_not, BitVec.toNat_ofNat, Nat.mod_eq_of_lt h]

theorem xorU {a b : Nat} (h : a < 18446744073709551616) (k : b < 18446744073709551616) : xorW .u64 (a : Int) (b : Int) = ((a ^^^ b : Nat) : Int) := by
  show IntKind.u64.wrap (((BitVec.ofInt 64 (a : Int) ^^^ BitVec.ofInt 64 (b : Int)).toNat : Nat) : Int) = _
  have e : (BitVec.ofInt 64 (a : Int) ^^^ BitVec.ofInt 64 (b : Int)).toNat = a ^^^ b := by
    rw [BitVec.toNat_xor, BitVec.ofInt_natCast, BitVec.ofInt_natCast, BitVec.toNat_ofNat, BitVec.toNat_ofNat, Nat.mod_eq_of_lt h, Nat.mod_eq_of_lt k]
  have hlt : a ^^^ b < 2 ^ 64 := Nat.xor_lt_two_pow h k
  rw [e]
  exact wrapU (by omega) (by omega)
theorem orU {a b : Nat} (h : a < 18446744073709551616) (k : b < 18446744073709551616) : orW .u64 (a : Int) (b : Int) = ((a ||| b : Nat) : Int) := by
  show IntKind.u64.wrap (((BitVec.ofInt 64 (a : Int) ||| BitVec.ofInt 64 (b : Int)).toNat : Nat) : Int) = _
  have e : (BitVec.ofInt 64 (a : Int) ||| BitVec.ofInt 64 (b : Int)).toNat = a ||| b := by
    rw [BitVec.toNat_or, BitVec.ofInt_natCast, BitVec.ofInt_natCast, BitVec.toNat_ofNat, BitVec.toNat_ofNat, Nat.mod_eq_of_lt h, Nat.mod_eq_of_lt k]
  have hlt : a ||| b < 2 ^ 64 := Nat.or_lt_two_pow h k
  rw [e]
  exact wrapU (by omega) (by omega)
theorem andU {a b : Nat} (h : a < 18446744073709551616) (k : b < 18446744073709551616) : andW .u64 (a : Int) (b : Int) = ((a &&& b : Nat) : Int) := by
  show IntKind.u64.wrap (((BitVec.ofInt 64 (a : Int) &&& BitVec.ofInt 64 (b : Int)).toNat : Nat) : Int) = _
  have e : (BitVec.ofInt 64 (a : Int) &&& BitVec.ofInt 64 (b : Int)).toNat = a &&& b := by
    rw [BitVec.toNat_and, BitVec.ofInt_natCast, BitVec.ofInt_natCast, BitVec.toNat_ofNat, BitVec.toNat_ofNat, Nat.mod_eq_of_lt h, Nat.mod_eq_of_lt k]
  have hlt : a &&& b < 2 ^ 64 := Nat.lt_of_le_of_lt Nat.and_le_left h
  rw [e]
  exact wrapU (by omega) (by omega)
theorem and127 (a : Nat) : a &&& 127 = a % 128 := Nat.and_two_pow_sub_one_eq_mod a 7
theorem and1 (a : Nat) : a &&& 1 = a % 2 := Nat.and_two_pow_sub_one_eq_mod a 1
theorem xor_ones64 {a : Nat} (h : a < 18446744073709551616) : a ^^^ 18446744073709551615 = 18446744073709551615 - a := by
  have := xor_ones a h
  rw [BitVec.toNat_xor, BitVec.toNat_ofNat, BitVec.toNat_ofNat, Nat.mod_eq_of_lt h] at this
  exact this
theorem shlU (a : Nat) : shlW .u64 (a : Int) 1 = ((a * 2 % 18446744073709551616 : Nat) : Int) := by
  have e : (2 : Int) ^ min (Int.toNat 1) IntKind.u64.bits = 2 := by decide
  unfold shlW
  rw [e, wrapU_mod]
  omega
theorem shrU7 (a : Nat) : shrW .u64 (a : Int) 7 = ((a / 128 : Nat) : Int) := by
  have e : (2 : Int) ^ min (Int.toNat 7) IntKind.u64.bits = 128 := by decide
  unfold shrW
  rw [e, Int.fdiv_eq_ediv_of_nonneg _ (by omega)]
  omega
theorem shrU1 (a : Nat) : shrW .u64 (a : Int) 1 = ((a / 2 : Nat) : Int) := by
  have e : (2 : Int) ^ min (Int.toNat 1) IntKind.u64.bits = 2 := by decide
  unfold shrW
  rw [e, Int.fdiv_eq_ediv_of_nonneg _ (by omega)]
  omega
theorem zzW {n : Int} (h1 : -9223372036854775808 ≤ n) (h2 : n < 9223372036854775808) : xorW .u64 (shlW .u64 (IntKind.u64.wrap n) 1) (IntKind.u64.wrap (shrW .i64 n 63)) = (zz n : Int) := by
  have e : (2 : Int) ^ min (Int.toNat 63) IntKind.i64.bits = 9223372036854775808 := by decide
  have hz := zz_lt h1 h2
  have hs : shrW .i64 n 63 = if 0 ≤ n then 0 else -1 := by
    unfold shrW
    rw [e, Int.fdiv_eq_ediv_of_nonneg _ (by omega)]
    split <;> omega
  rw [hs]
  by_cases hn : 0 ≤ n
  · have e1 : IntKind.u64.wrap n = ((n.toNat : Nat) : Int) := by rw [wrapU_mod]; omega
    have e2 : IntKind.u64.wrap 0 = ((0 : Nat) : Int) := by decide
    have e3 : zz n = n.toNat * 2 := by unfold zz; rw [if_pos hn]; omega
    rw [if_pos hn, e1, shlU, e2]
    rw [xorU (Nat.mod_lt _ (by omega)) (by omega), Nat.mod_eq_of_lt (by omega), Nat.xor_zero, e3]
  · have e1 : IntKind.u64.wrap n = (((n + 18446744073709551616).toNat : Nat) : Int) := by rw [wrapU_mod]; omega
    have e2 : IntKind.u64.wrap (-1) = ((18446744073709551615 : Nat) : Int) := by decide
    have e3 : zz n = (-2 * n - 1).toNat := by unfold zz; rw [if_neg hn]
    rw [if_neg hn, e1, shlU, e2]
    rw [xorU (Nat.mod_lt _ (by omega)) (by omega), xor_ones64 (Nat.mod_lt _ (by omega)), e3]
    omega
theorem orB_tab : ∀ x : Fin 256, orW .u8 (x.val : Int) 128 = ((x.val % 128 + 128 : Nat) : Int) := by decide +kernel
theorem orB (u : Nat) : orW .u8 (IntKind.u8.wrap (u : Int)) 128 = (((UInt8.ofNat (u % 128 + 128)).toNat : Nat) : Int) := by
  have e : IntKind.u8.wrap (u : Int) = ((u % 256 : Nat) : Int) := by rw [wrapB_mod]; omega
  have h := orB_tab ⟨u % 256, Nat.mod_lt _ (by omega)⟩
  rw [e]
  simp only at h
  rw [h]
  simp only [UInt8.toNat_ofNat']
  omega
theorem conB {u : Nat} (h : u < 128) : IntKind.u8.wrap (u : Int) = (((UInt8.ofNat u).toNat : Nat) : Int) := by
  rw [wrapB_mod]; simp only [UInt8.toNat_ofNat']; omega
theorem conB' (n : Int) : IntKind.u8.wrap n = (((UInt8.ofNat (n % 256).toNat).toNat : Nat) : Int) := by
  rw [wrapB_mod]; simp only [UInt8.toNat_ofNat']; omega

end Go.Proofs.YtfegliplajdgmaaI
