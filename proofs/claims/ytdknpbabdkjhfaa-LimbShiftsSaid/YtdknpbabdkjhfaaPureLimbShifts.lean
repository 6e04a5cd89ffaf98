/- LimbShifts: the shift is the product with, or the quotient by, a power of two. -/
import Derived.Test.YtdknpbabdkjhfaaOLimbShiftsLimbE
import Derived.Test.YtdknpbabdkjhfaaOLimbShiftsLimbH
set_option linter.unusedVariables false
set_option linter.unusedSimpArgs false
namespace Go.Proofs.Ytdknpbabdkjhfaa.Pure
open Go.RowKit Go.Proofs.Ytdknpbabdkjhfaa.POLimbShifts Go.Proofs.Ytdknpbabdkjhfaa.EOLimbShifts Go.Proofs.YtdknpbabdkjhfaaN Go.Proofs.YtdknpbabdkjhfaaW.PrintWords Go.Proofs.YtdknpbabdkjhfaaW.PrintLast

theorem pow_big {v : Int} (hv : 0 ≤ v) (hl : v < B ^ 30) {m : Nat} (hm : 100000 ≤ m) : v / 2 ^ m = 0 := by
  rw [Bpow_two] at hl
  exact Int.ediv_eq_zero_of_lt hv (Int.lt_of_lt_of_le hl (two_mono (by omega)))
theorem shifts_core {l0 : List Int} {n : Int} (h0 : Ok l0) (n0 : l0.length ≤ 30) : Ev (fun k => syzygylaw01_LimbShifts.j0 k l0 n false) true := by
  have hv := val_nonneg h0
  have hl : val l0 < B ^ 30 := Int.lt_of_lt_of_le (val_lt h0) (Bpow_mono n0)
  refine Ev.step (fun k => by rw [syzygylaw01_LimbShifts.j0]) (Ev.neg (by simp) ?_)
  by_cases hn : 0 ≤ n
  · have e : mx n (-100000) = n := by unfold mx; split <;> omega
    rw [e]
    have hp := two_pos (min n.toNat 1000)
    have h1 : val l0 * 2 ^ (min n.toNat 1000) < B ^ 46 := by
      have h2 : (2 : Int) ^ (min n.toNat 1000) ≤ B ^ 16 := by
        rw [Bpow_two]
        exact two_mono (by omega)
      rw [show 46 = 30 + 16 from rfl, Int.pow_add]
      have h3 := Bpow_pos 16
      have h4 : val l0 * 2 ^ (min n.toNat 1000) ≤ val l0 * B ^ 16 := Int.mul_le_mul_of_nonneg_left h2 hv
      have h5 : val l0 * B ^ 16 < B ^ 30 * B ^ 16 := Int.mul_lt_mul_of_pos_right hl h3
      exact Int.lt_of_le_of_lt h4 h5
    exact Ev.bind (shift_pos h0 (by omega) hn) (Ev.bind (rshift_pos h0 (by omega) hn) (Ev.bind (sameT (n := 46) (Int.mul_nonneg hv (Int.le_of_lt hp)) h1 (by omega) rfl) (Ev.now _)))
  · have hq : ∀ m : Nat, 0 ≤ val l0 / 2 ^ m ∧ val l0 / 2 ^ m < B ^ 30 := fun m => ⟨Int.ediv_nonneg hv (Int.le_of_lt (two_pos m)), Int.lt_of_le_of_lt (Int.ediv_le_self _ hv) hl⟩
    have e : mx n (-100000) = -((min (-n).toNat 100000 : Nat) : Int) := by unfold mx; split <;> omega
    rw [e]
    have e2 : (- -((min (-n).toNat 100000 : Nat) : Int)).toNat = min (-n).toNat 100000 := by omega
    have hs := rshift_neg h0 (by omega) (n := -((min (-n).toNat 100000 : Nat) : Int)) (by omega) (by omega)
    rw [e2] at hs
    refine Ev.bind (shift_neg h0 (by omega) (by omega)) (Ev.bind hs (Ev.bind (sameT (n := 30) (hq _).1 (hq _).2 (by omega) ?_) (Ev.now _)))
    by_cases h : (-n).toNat ≤ 100000
    · rw [Nat.min_eq_left h]
    · rw [Nat.min_eq_right (by omega), pow_big hv hl (by omega), pow_big hv hl (by omega)]
theorem shifts_shown (l0 : List Int) (n : Int) : Ev (fun k => syzygylaw01_LimbShifts.j0 k l0 n true) true :=
  Ev.step (fun k => by rw [syzygylaw01_LimbShifts.j0]) (Ev.pos rfl (Ev.bind shown_ev (Ev.now _)))
theorem LimbShifts : syzygylaw01_LimbShifts.Pure := by
  intro l0 n _ _ h0 _
  refine Ev.rounds ?_
  unfold syzygylaw01_LimbShifts.f
  refine Ev.bind_const (heavy_eq _ _) ?_
  by_cases c1 : 30 < l0.length ∨ 30 < ([] : List Int).length
  · exact Ev.pos (decide_eq_true c1) (shifts_shown ..)
  · refine Ev.neg (by simpa using c1) (Ev.bind shown_ev ?_)
    exact shifts_core (ok_of_wf h0) (by omega)
end Go.Proofs.Ytdknpbabdkjhfaa.Pure
