/- Powers of two, and `or` of numbers that share no bit. -/
import Derived.Test.YtmknpclfanblfaaNumB
import Derived.Laws.Bits64b
set_option linter.unusedVariables false
set_option linter.unusedSimpArgs false
namespace Go.Proofs.YtmknpclfanblfaaN
open Go

theorem B_two : B = 2 ^ 64 := by rw [B_eq]; simp
theorem two_lt : (2 : Int) ^ 63 < 2 ^ 64 := by simp
theorem two_pos (n : Nat) : (0 : Int) < 2 ^ n := Int.pow_pos (by decide)
theorem two_mono {m n : Nat} (h : m ≤ n) : (2 : Int) ^ m ≤ 2 ^ n := by
  obtain ⟨k, rfl⟩ := Nat.le.dest h
  rw [Int.pow_add]
  have h1 := two_pos m
  have h2 := two_pos k
  have : (2 : Int) ^ m * 1 ≤ 2 ^ m * 2 ^ k := Int.mul_le_mul_of_nonneg_left (by omega) (by omega)
  omega
theorem Bpow_two (q : Nat) : B ^ q = 2 ^ (64 * q) := by rw [B_two, Int.pow_mul]
theorem two_split {r : Nat} (h : r ≤ 64) : (2 : Int) ^ r * 2 ^ (64 - r) = B := by
  rw [← Int.pow_add, B_two, show r + (64 - r) = 64 from by omega]
theorem two_nat (r : Nat) : (2 : Int) ^ r = ((2 ^ r : Nat) : Int) := by simp
theorem or_hi {a b : Int} {r : Nat} (ha : 0 ≤ a) (hb : 0 ≤ b ∧ b < 2 ^ r) (hl : 2 ^ r * a < B) (hbB : b < B) : bits .or .u64 (2 ^ r * a) b = 2 ^ r * a + b := by
  obtain ⟨m, rfl⟩ := Int.eq_ofNat_of_zero_le ha
  obtain ⟨n, rfl⟩ := Int.eq_ofNat_of_zero_le hb.1
  have h2 := hb.2
  rw [two_nat] at hl h2 ⊢
  rw [← Int.natCast_mul] at hl ⊢
  rw [B_eq] at hl hbB
  have h3 : n < 2 ^ r := Int.ofNat_lt.1 h2
  rw [bits_or_u64_nat _ _ (by omega) (by omega), ← Nat.two_pow_add_eq_or_of_lt h3]
  omega
theorem or_lo {a b : Int} {r : Nat} (ha : 0 ≤ a) (hb : 0 ≤ b ∧ b < 2 ^ r) (hl : 2 ^ r * a < B) (hbB : b < B) : bits .or .u64 b (2 ^ r * a) = b + 2 ^ r * a := by
  obtain ⟨m, rfl⟩ := Int.eq_ofNat_of_zero_le ha
  obtain ⟨n, rfl⟩ := Int.eq_ofNat_of_zero_le hb.1
  have h2 := hb.2
  rw [two_nat] at hl h2 ⊢
  rw [← Int.natCast_mul] at hl ⊢
  rw [B_eq] at hl hbB
  have h3 : n < 2 ^ r := Int.ofNat_lt.1 h2
  rw [bits_or_u64_nat _ _ (by omega) (by omega), Nat.or_comm, ← Nat.two_pow_add_eq_or_of_lt h3]
  omega
/-- One limb moved to the left: what stays and what goes over. -/
theorem left_split {x : Int} {r : Nat} (h : r ≤ 64) : 2 ^ r * (x % 2 ^ (64 - r)) + B * (x / 2 ^ (64 - r)) = 2 ^ r * x := by
  have e := Int.mul_ediv_add_emod x (2 ^ (64 - r))
  rw [← two_split h]
  have : (2 : Int) ^ r * x = 2 ^ r * (2 ^ (64 - r) * (x / 2 ^ (64 - r)) + x % 2 ^ (64 - r)) := by rw [e]
  rw [this, Int.mul_add, Int.mul_assoc, Int.add_comm]
/-- One limb moved to the right, with what comes from the next one. -/
theorem right_split {x y V : Int} {r : Nat} (h : r ≤ 64) : (x + B * (y + B * V)) / 2 ^ r = (x / 2 ^ r + 2 ^ (64 - r) * (y % 2 ^ r)) + B * ((y + B * V) / 2 ^ r) := by
  have hp := two_pos r
  have e0 : (y + B * V) % 2 ^ r = y % 2 ^ r := by
    rw [← two_split h, Int.mul_assoc, Int.add_mul_emod_self_left]
  generalize hz : y + B * V = Z at *
  have e := Int.mul_ediv_add_emod Z (2 ^ r)
  have e1 : B * Z = 2 ^ r * (2 ^ (64 - r) * Z) := by rw [← two_split h, Int.mul_assoc]
  rw [e1, Int.add_mul_ediv_left _ _ (by omega), ← e0]
  have e2 : (2 : Int) ^ (64 - r) * Z = 2 ^ (64 - r) * (2 ^ r * (Z / 2 ^ r) + Z % 2 ^ r) := by rw [e]
  rw [e2, Int.mul_add, ← Int.mul_assoc, Int.mul_comm (2 ^ (64 - r)) (2 ^ r), two_split h]
  omega
theorem shl_in {x : Int} {r : Nat} (h : r ≤ 64) : 0 ≤ 2 ^ r * (x % 2 ^ (64 - r)) ∧ 2 ^ r * (x % 2 ^ (64 - r)) ≤ B - 2 ^ r := by
  have h1 := two_pos r
  have h2 := two_pos (64 - r)
  have h3 := Int.emod_nonneg x (b := 2 ^ (64 - r)) (by omega)
  have h4 := Int.emod_lt_of_pos x h2
  refine ⟨Int.mul_nonneg (by omega) h3, ?_⟩
  have h5 : (2 : Int) ^ r * (x % 2 ^ (64 - r)) ≤ 2 ^ r * (2 ^ (64 - r) - 1) := Int.mul_le_mul_of_nonneg_left (by omega) (by omega)
  rw [Int.mul_sub, two_split h, Int.mul_one] at h5
  exact h5
theorem two_le_B {r : Nat} (h : r ≤ 64) : (2 : Int) ^ r ≤ B := by rw [B_two]; exact two_mono h
end Go.Proofs.YtmknpclfanblfaaN
