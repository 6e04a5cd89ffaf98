-- printed (pr.py)
import Derived.Test.YtoganbmeedimiaaGreatPOPressSizesx0
namespace Go.Proofs.YtoganbmeedimiaaGreat.POPressSizes
open Go.RowKit Go.Proofs.YtoganbmeedimiaaGreatN Go.Proofs.YtoganbmeedimiaaGreatW.PrintWords Go.Proofs.YtoganbmeedimiaaGreatW.PrintLast Go.Proofs.YtoganbmeedimiaaGreatW.PrintMore
attribute [local go_sem] zU zQ zn zm vV vU zT zP
set_option maxHeartbeats 8000000
set_option maxRecDepth 100000
set_option linter.unusedVariables false
set_option linter.unusedSimpArgs false
def qG.f (a0 : Int) : Option (Bool) := if a0 ≥ 0 then (some (decide (a0 ≤ 2))) else (some false)
theorem qG.calls (a0 : Int) (r : Bool) (w : World) (h : qG.f a0 = some r) :
  Calls Tryz.prog 47 #[.int .i64 a0] w fun e w' => e = .returned (.bool r) ∧ jY w w' := by
 have H : (if a0 ≥ 0 then (some (decide (a0 ≤ 2))) else (some false)) = some r := h
 clear h
 by_cases c2 : a0 ≥ 0
 ·
  rw [if_pos c2] at H
  have c2b0 := decide_eq_true c2
  clear c2
  obtain rfl := Option.some.inj H
  go_enter Tryz.func47, Tryz.ntmps47
  go_wp2
  go_ret
  exact ⟨by first | rfl | (simp; done) | (simp [*]; done), by repeat (first | exact jY.refl _ | apply jY.step)⟩
 rw [if_neg c2] at H
 have c2b0 := decide_eq_false c2
 clear c2
 obtain rfl := Option.some.inj H
 go_enter Tryz.func47, Tryz.ntmps47
 go_wp2
 go_ret
 exact ⟨by first | rfl | (simp; done) | (simp [*]; done), by repeat (first | exact jY.refl _ | apply jY.step)⟩
end Go.Proofs.YtoganbmeedimiaaGreat.POPressSizes
