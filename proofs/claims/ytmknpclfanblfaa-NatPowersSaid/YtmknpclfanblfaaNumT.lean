/- How many bits a number has. -/
import Derived.Test.YtmknpclfanblfaaNumS
set_option linter.unusedVariables false
set_option linter.unusedSimpArgs false
namespace Go.Proofs.YtmknpclfanblfaaN
open Go

def IsBits (v : Int) (n : Nat) : Prop := (v = 0 ∧ n = 0) ∨ ∃ m, n = m + 1 ∧ 2 ^ m ≤ v ∧ v < 2 ^ (m + 1)
theorem two_succ (m : Nat) : (2 : Int) ^ (m + 1) = 2 * 2 ^ m := by rw [Int.pow_succ, Int.mul_comm]
theorem IsBits.uniq {v : Int} {n m : Nat} (h : IsBits v n) (h' : IsBits v m) : n = m := by
  rcases h with ⟨h1, h2⟩ | ⟨a, h1, h2, h3⟩
  · rcases h' with ⟨h1', h2'⟩ | ⟨b, h1', h2', h3'⟩
    · omega
    · have := two_pos b; omega
  · rcases h' with ⟨h1', h2'⟩ | ⟨b, h1', h2', h3'⟩
    · have := two_pos a; omega
    · by_cases h4 : a < b
      · have := two_mono (show a + 1 ≤ b from h4); omega
      · by_cases h5 : b < a
        · have := two_mono (show b + 1 ≤ a from h5); omega
        · omega
theorem IsBits.up {v : Int} {n : Nat} (hv : 0 < v) (h : IsBits (v / 2) n) : IsBits v (n + 1) := by
  rcases h with ⟨h1, h2⟩ | ⟨a, h1, h2, h3⟩
  · subst h2
    exact .inr ⟨0, rfl, by simp; omega, by simp; omega⟩
  · subst h1
    rw [two_succ] at h3
    refine .inr ⟨a + 1, rfl, ?_, ?_⟩
    · rw [two_succ]; omega
    · rw [two_succ, two_succ]; omega
theorem IsBits.down {v : Int} {n : Nat} (h : IsBits v (n + 1)) : IsBits (v / 2) n := by
  rcases h with ⟨h1, h2⟩ | ⟨a, h1, h2, h3⟩
  · omega
  · obtain rfl : n = a := by omega
    cases n with
    | zero => exact .inl ⟨by simp at h2 h3; omega, rfl⟩
    | succ n =>
      rw [two_succ, two_succ] at h3
      rw [two_succ] at h2
      exact .inr ⟨n, rfl, by omega, by rw [two_succ]; omega⟩
theorem IsBits.pos {v : Int} {n : Nat} (h : IsBits v (n + 1)) : 0 < v := by
  rcases h with ⟨_, h2⟩ | ⟨a, _, h2, _⟩
  · omega
  · have := two_pos a; omega
theorem IsBits.zero {v : Int} (h : IsBits v 0) : v = 0 := by
  rcases h with ⟨h1, _⟩ | ⟨a, h1, _, _⟩
  · exact h1
  · omega
theorem IsBits.ex {n : Nat} : ∀ {v : Int}, 0 ≤ v → v < 2 ^ n → ∃ m, m ≤ n ∧ IsBits v m := by
  induction n with
  | zero => intro v h0 h1; exact ⟨0, Nat.le_refl _, .inl ⟨by simp at h1; omega, rfl⟩⟩
  | succ n ih =>
    intro v h0 h1
    by_cases hz : v = 0
    · exact ⟨0, by omega, .inl ⟨hz, rfl⟩⟩
    · rw [two_succ] at h1
      obtain ⟨m, hm, h⟩ := ih (v := v / 2) (by omega) (by omega)
      exact ⟨m + 1, by omega, h.up (by omega)⟩
theorem IsBits.top {v : Int} (hv : 0 < v) {n : Nat} (h : IsBits ((dg v).getD ((dg v).length - 1) 0) n) : IsBits v (64 * ((dg v).length - 1) + n) := by
  have hne : dg v ≠ [] := fun e => by have := (dg_nil_iff (Int.le_of_lt hv)).1 e; omega
  have hlen := List.length_pos_iff.2 hne
  have hl := (dg_last v).resolve_left hne
  have e := val_take_drop (dg v) ((dg v).length - 1) (by omega)
  rw [val_dg (Int.le_of_lt hv), val_drop (by omega), show (dg v).length - 1 + 1 = (dg v).length from by omega, List.drop_length, val_nil, Int.mul_zero, Int.add_zero] at e
  have ht := val_lt ((ok_dg v).take ((dg v).length - 1))
  have htn := val_nonneg ((ok_dg v).take ((dg v).length - 1))
  rw [List.length_take, Nat.min_eq_left (by omega)] at ht
  generalize val ((dg v).take ((dg v).length - 1)) = L at *
  generalize (dg v).getD ((dg v).length - 1) 0 = t at *
  generalize (dg v).length - 1 = q at *
  rcases h with ⟨h1, h2⟩ | ⟨a, h1, h2, h3⟩
  · exact absurd h1 hl
  · rw [Bpow_two] at e ht
    have hp := two_pos (64 * q)
    refine .inr ⟨64 * q + a, by omega, ?_, ?_⟩
    · rw [Int.pow_add, e]
      have : (2 : Int) ^ (64 * q) * 2 ^ a ≤ 2 ^ (64 * q) * t := Int.mul_le_mul_of_nonneg_left h2 (by omega)
      omega
    · rw [Nat.add_assoc, Int.pow_add, e]
      have h4 : (2 : Int) ^ (64 * q) * (t + 1) ≤ 2 ^ (64 * q) * 2 ^ (a + 1) := Int.mul_le_mul_of_nonneg_left (by omega) (by omega)
      rw [Int.mul_add, Int.mul_one] at h4
      omega
theorem IsBits.mul {v : Int} {n : Nat} (h : IsBits v n) (hv : 0 < v) (m : Nat) : IsBits (v * 2 ^ m) (n + m) := by
  rcases h with ⟨h1, _⟩ | ⟨a, h1, h2, h3⟩
  · omega
  · have hp := two_pos m
    refine .inr ⟨a + m, by omega, ?_, ?_⟩
    · rw [Int.pow_add]; exact Int.mul_le_mul_of_nonneg_right h2 (by omega)
    · rw [show a + m + 1 = a + 1 + m from by omega, Int.pow_add]; exact Int.mul_lt_mul_of_pos_right h3 hp
end Go.Proofs.YtmknpclfanblfaaN
