/- Rows of limbs as numbers: more. -/
import Derived.Test.YtmknpclfanblfaaNum
set_option linter.unusedVariables false
set_option linter.unusedSimpArgs false
namespace Go.Proofs.YtmknpclfanblfaaN
theorem cmpv_bd (x y : Int) : -1 ≤ cmpv x y ∧ cmpv x y ≤ 1 := by unfold cmpv; split <;> (try split) <;> omega
theorem cmpv_eq0 (x y : Int) : (cmpv x y == 0) = decide (x = y) := by
  unfold cmpv
  by_cases h : x < y
  · rw [if_pos h]
    have : x ≠ y := by omega
    simp [this]
  · rw [if_neg h]
    by_cases h2 : x = y <;> simp [h2]
theorem cmpv_pos {x y : Int} : 0 < cmpv x y ↔ y < x := by unfold cmpv; split <;> (try split) <;> omega
theorem cmpv_neg {x y : Int} : cmpv x y < 0 ↔ x < y := by unfold cmpv; split <;> (try split) <;> omega
theorem cmpv_add (x y z : Int) : cmpv (x + z) (y + z) = cmpv x y := by
  unfold cmpv
  by_cases h : x < y
  · rw [if_pos h, if_pos (by omega)]
  · rw [if_neg h, if_neg (by omega)]
    by_cases h2 : x = y
    · rw [if_pos h2, if_pos (by omega)]
    · rw [if_neg h2, if_neg (by omega)]
end Go.Proofs.YtmknpclfanblfaaN
