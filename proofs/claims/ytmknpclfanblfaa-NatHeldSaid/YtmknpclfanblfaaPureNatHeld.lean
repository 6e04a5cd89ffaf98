/- NatHeld: what is told may be; what has no room is told so, and just that. -/
import Derived.Test.YtmknpclfanblfaaONatHeldNatA
import Derived.Test.YtmknpclfanblfaaONatHeldLimbC
import Derived.Test.YtmknpclfanblfaaONatHeldLimbD
set_option linter.unusedVariables false
set_option linter.unusedSimpArgs false
namespace Go.Proofs.Ytmknpclfanblfaa.Pure
open Go.RowKit Go.Proofs.Ytmknpclfanblfaa.PONatHeld Go.Proofs.Ytmknpclfanblfaa.EONatHeld Go.Proofs.YtmknpclfanblfaaN Go.Proofs.YtmknpclfanblfaaW.PrintWords Go.Proofs.YtmknpclfanblfaaW.PrintLast

theorem held_shown (l0 l1 : List Int) : Ev (fun k => syzygylaw02_NatHeld.j0 k l0 l1 true) true :=
  Ev.step (fun k => by rw [syzygylaw02_NatHeld.j0]) (Ev.pos rfl (Ev.bind nshown_ev (Ev.now _)))
theorem told_big (x : Int) : ((told x).2 == 21) = decide (((dg x).length : Int) > 8) := by
  rw [told_err]
  by_cases h : 8 < (dg x).length
  · rw [if_pos h, decide_eq_true (by omega)]; rfl
  · rw [if_neg h, decide_eq_false (by omega)]; rfl
theorem held_no {l0 l1 : List Int} (h0 : Ok l0) (h1 : Ok l1) (h : ¬ (Held l0 ∧ Held l1)) : Ev (fun k => syzygylaw02_NatHeld.j1 k l0 l1 true) true := by
  refine Ev.step (fun k => by rw [syzygylaw02_NatHeld.j1]) (Ev.pos rfl (Ev.bind (nmul_ev h0 h1) ?_))
  rw [if_neg h]
  exact Ev.now _
theorem held_core {l0 l1 : List Int} (h0 : Ok l0) (h1 : Ok l1) (n0 : l0.length ≤ 20) (n1 : l1.length ≤ 20) : Ev (fun k => syzygylaw02_NatHeld.j0 k l0 l1 false) true := by
  refine Ev.step (fun k => by rw [syzygylaw02_NatHeld.j0]) (Ev.neg (by simp) (Ev.bind_const (rmay_eq l0) ?_))
  by_cases g0 : Held l0
  · refine Ev.pos (decide_eq_true g0) (Ev.bind_const (rmay_eq l1) ?_)
    by_cases g1 : Held l1
    · rw [decide_eq_true g1]
      have hm := nmul_ev h0 h1
      have ha := nadd_ev h0 h1
      rw [if_pos ⟨g0, g1⟩] at hm ha
      have e1 := told_big (val l0 * val l1)
      have e2 := told_big (val l0 + val l1)
      refine Ev.step (fun k => by rw [syzygylaw02_NatHeld.j1]) (Ev.neg (by simp) (Ev.bind hm (Ev.bind ha (Ev.bind_const (may_eq _) (Ev.pos (decide_eq_true (told_held _)) (Ev.bind_const (may_eq _) (Ev.pos (decide_eq_true (told_held _)) (Ev.bind (rmul_ev h0 h1 (by omega) (by omega)) ?_))))))))
      refine Ev.pos (beq_iff_eq.mpr e1) (Ev.bind (radd_ev h0 h1 (by omega) (by omega)) ?_)
      exact Ev.const (congrArg some (beq_iff_eq.mpr e2))
    · rw [decide_eq_false g1]
      exact held_no h0 h1 (fun q => g1 q.2)
  · exact Ev.neg (by simpa using g0) (held_no h0 h1 (fun q => g0 q.1))
theorem NatHeld : syzygylaw02_NatHeld.Pure := by
  intro l0 l1 _ _ h0 _ _ h1
  refine Ev.rounds ?_
  unfold syzygylaw02_NatHeld.f
  by_cases c0 : (l0.length : Int) > 20
  · exact Ev.pos c0 (held_shown ..)
  · refine Ev.neg c0 ?_
    by_cases c1 : (l1.length : Int) > 20
    · exact Ev.pos c1 (held_shown ..)
    · exact Ev.neg c1 (Ev.bind nshown_ev (held_core (ok_of_wf h0) (ok_of_wf h1) (by omega) (by omega)))
end Go.Proofs.Ytmknpclfanblfaa.Pure
