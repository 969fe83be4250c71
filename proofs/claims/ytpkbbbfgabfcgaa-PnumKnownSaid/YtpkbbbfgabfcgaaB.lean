/-
  Bit lemmas: a mask of low bits taken away; bytes put together.
-/
import Derived.Laws.BitsAllLaws
import Derived.Laws.BitsLemmas
namespace Go.Proofs.Ytpkbbbfgabfcgaa

theorem and_high (x k : Nat) (hk : k ≤ 64) (hx : x < 2 ^ 64) : x &&& (2 ^ 64 - 2 ^ k) = x - x % 2 ^ k := by
  have e1 : 2 ^ 64 - 2 ^ k = 2 ^ k * (2 ^ (64 - k) - 1) := by
    rw [Nat.mul_sub, ← Nat.pow_add, show k + (64 - k) = 64 from by omega, Nat.mul_one]
  have e2 : x - x % 2 ^ k = 2 ^ k * (x / 2 ^ k) := by
    have := Nat.div_add_mod x (2 ^ k)
    omega
  rw [e1, e2]
  apply Nat.eq_of_testBit_eq
  intro i
  rw [Nat.testBit_and, Nat.testBit_two_pow_mul, Nat.testBit_two_pow_mul, Nat.testBit_two_pow_sub_one, Nat.testBit_div_two_pow]
  by_cases hi : k ≤ i
  · rw [show i - k + k = i from by omega]
    by_cases h64 : i < 64
    · have h1 : decide (i ≥ k) = true := by simp; omega
      have h2 : decide (i - k < 64 - k) = true := by simp; omega
      rw [h1, h2]; simp
    · have : x.testBit i = false := Nat.testBit_lt_two_pow (Nat.lt_of_lt_of_le hx (Nat.pow_le_pow_right (by decide) (by omega)))
      rw [this]; simp
  · have : decide (i ≥ k) = false := by simp; omega
    rw [this]; simp

theorem ofInt_i64 (a : Nat) (ha : a < 9223372036854775808) : (BitVec.ofInt 64 (a : Int)).toNat = a := by
  rw [BitVec.ofInt_natCast, BitVec.toNat_ofNat]; exact Nat.mod_eq_of_lt (by omega)
theorem i64_or_nat (a b : Nat) (ha : a < 9223372036854775808) (hb : b < 9223372036854775808) : bits .or .i64 (a : Int) (b : Int) = ((a ||| b : Nat) : Int) := by
  have hx : a ||| b < 2 ^ 63 := Nat.or_lt_two_pow (by omega) (by omega)
  show IntKind.i64.wrap ((BitVec.ofInt 64 (a : Int) ||| BitVec.ofInt 64 (b : Int)).toNat : Int) = _
  rw [BitVec.toNat_or, ofInt_i64 a ha, ofInt_i64 b hb, IntKind.wrap_i64]
  omega
/-- A byte put behind a number. -/
theorem or_byte (a b : Int) (h0 : 0 ≤ a) (h1 : a ≤ 1099511627776) (h2 : 0 ≤ b) (h3 : b ≤ 255) : bits .or .i64 (a * 256) b = a * 256 + b := by
  obtain ⟨A, rfl⟩ := Int.eq_ofNat_of_zero_le h0
  obtain ⟨B, rfl⟩ := Int.eq_ofNat_of_zero_le h2
  have e : A * 256 ||| B = A * 256 + B := by
    have := Nat.two_pow_add_eq_or_of_lt (i := 8) (show B < 2 ^ 8 by omega) A
    rw [Nat.mul_comm]
    simpa using this.symm
  have := i64_or_nat (A * 256) B (by omega) (by omega)
  rw [e] at this
  simpa using this
theorem or_byte0 (b : Int) (h2 : 0 ≤ b) (h3 : b ≤ 255) : bits .or .i64 0 b = b := by
  simpa using or_byte 0 b (by omega) (by omega) h2 h3
/-- The low bits of a number put in the place of zeros. -/
theorem or_low (k : Nat) (hk : k ≤ 40) (a b m : Int) (hm : m = 2 ^ k) (h0 : 0 ≤ a) (h1 : a ≤ 9007199254740992) (h2 : 0 ≤ b) (h3 : b < m) : bits .or .i64 (a - a % m) b = a - a % m + b := by
  obtain ⟨A, rfl⟩ := Int.eq_ofNat_of_zero_le h0
  obtain ⟨B, rfl⟩ := Int.eq_ofNat_of_zero_le h2
  subst hm
  have hB : B < 2 ^ k := by
    have : (B : Int) < ((2 ^ k : Nat) : Int) := by simpa using h3
    omega
  have hp : 2 ^ k ≤ 2 ^ 40 := Nat.pow_le_pow_right (by decide) hk
  have hsub : ((A : Int) - (A : Int) % 2 ^ k) = ((2 ^ k * (A / 2 ^ k) : Nat) : Int) := by
    have h := Nat.div_add_mod A (2 ^ k)
    have h' : ((2 ^ k * (A / 2 ^ k) : Nat) : Int) + ((A % 2 ^ k : Nat) : Int) = (A : Int) := by omega
    have h'' : ((A % 2 ^ k : Nat) : Int) = (A : Int) % 2 ^ k := by simp
    omega
  have hle : 2 ^ k * (A / 2 ^ k) ≤ A := Nat.mul_div_le A (2 ^ k)
  rw [hsub, i64_or_nat _ _ (by omega) (by omega), ← Nat.two_pow_add_eq_or_of_lt hB]
  simp
theorem andNot_mask (k : Nat) (hk : k ≤ 40) (a m : Int) (hm : m = 2 ^ k - 1) (h0 : 0 ≤ a) (h1 : a ≤ 9007199254740992) : bits .andNot .i64 a m = a - a % (m + 1) := by
  obtain ⟨A, rfl⟩ := Int.eq_ofNat_of_zero_le h0
  have hp : 2 ^ k ≤ 2 ^ 40 := Nat.pow_le_pow_right (by decide) hk
  have hp0 : 0 < 2 ^ k := Nat.two_pow_pos k
  have hc : ((2 ^ k : Nat) : Int) = (2 : Int) ^ k := by simp
  obtain ⟨M, rfl⟩ : ∃ M : Nat, m = (M : Int) := ⟨2 ^ k - 1, by rw [hm, ← hc]; omega⟩
  have hM : M = 2 ^ k - 1 := by
    have : ((M : Int) + 1) = ((2 ^ k : Nat) : Int) := by rw [hm]; simp
    omega
  have hx : A &&& (2 ^ 64 - 2 ^ k) = A - A % 2 ^ k := and_high A k (by omega) (by omega)
  show IntKind.i64.wrap ((BitVec.ofInt 64 (A : Int) &&& ~~~BitVec.ofInt 64 (M : Int)).toNat : Int) = _
  rw [BitVec.toNat_and, BitVec.toNat_not, ofInt_i64 A (by omega), ofInt_i64 M (by omega), IntKind.wrap_i64, show 2 ^ 64 - 1 - M = 2 ^ 64 - 2 ^ k from by omega, hx]
  have e : ((M : Int) + 1) = ((2 ^ k : Nat) : Int) := by omega
  have hmod : A % 2 ^ k ≤ A := Nat.mod_le _ _
  have e2 : (A : Int) % ((M : Int) + 1) = ((A % 2 ^ k : Nat) : Int) := by rw [e]; simp
  rw [e2]
  omega
end Go.Proofs.Ytpkbbbfgabfcgaa
