/- QuotArgs: what may not be is refused, and by 0 nothing is divided. -/
import Derived.Test.YtfoickaangjmnaaOQuotArgsL
set_option linter.unusedVariables false
set_option linter.unusedSimpArgs false
namespace Go.Proofs.Ytfoickaangjmnaa.Pure
open Go.RowKit Go.Proofs.Ytfoickaangjmnaa.POQuotArgs Go.Proofs.Ytfoickaangjmnaa.EOQuotArgs Go.Proofs.YtfoickaangjmnaaN Go.Proofs.YtfoickaangjmnaaW.PrintWords Go.Proofs.YtfoickaangjmnaaW.PrintLast
theorem args_shown (l0 l1 : List Int) : Ev (fun k => syzygylaw03_QuotArgs.j0 k l0 l1 true) true :=
  Ev.step (fun k => by rw [syzygylaw03_QuotArgs.j0]) (Ev.pos rfl (Ev.bind qshown_ev (Ev.now _)))
theorem len_zero_val {l : List Int} (h : Ok l) (hh : Held l) : ((l.length : Int) == 0) = decide (val l = 0) := by
  have e := hh.dg h
  have := dg_len0 (val_nonneg h)
  rw [e] at this
  rw [Bool.eq_iff_iff, beq_iff_eq, decide_eq_true_iff]
  exact this
theorem args_core {l0 l1 : List Int} (h0 : Ok l0) (h1 : Ok l1) : Ev (fun k => syzygylaw03_QuotArgs.j0 k l0 l1 (!true)) true := by
  have hd := div_ev h0 h1
  have hg := gcd_ev h0 h1
  have hl := lcm_ev h0 h1
  have hs := small_ev h0 (n := 0) (Int.le_refl _) (by decide)
  unfold divd at hd
  unfold gcdd at hg
  unfold lcmd at hl
  unfold smalld at hs
  refine Ev.step (fun k => by rw [syzygylaw03_QuotArgs.j0]) (Ev.neg (by simp) (Ev.bind_const (rmay_eq l0) ?_))
  by_cases c0 : Held l0
  · refine Ev.pos (decide_eq_true c0) (Ev.bind_const (rmay_eq l1) ?_)
    by_cases c1 : Held l1
    · rw [if_pos ⟨c0, c1⟩] at hd hg hl
      rw [if_pos c0, if_pos rfl] at hs
      rw [decide_eq_true c1]
      have hz := len_zero_val h1 c1
      refine Ev.step (fun k => by rw [syzygylaw03_QuotArgs.j1]) (Ev.bind hd (Ev.bind hg (Ev.bind hl (Ev.bind hs (Ev.pos rfl ?_)))))
      refine Ev.pos ?_ (Ev.pos rfl ?_)
      · rw [hz]
        by_cases hv : val l1 = 0
        · rw [if_pos hv]; simp [hv]
        · rw [if_neg hv]; simp [hv]
      · rw [told_err]
        split
        · exact Ev.neg (by decide) (Ev.pos rfl (Ev.now _))
        · exact Ev.pos rfl (Ev.now _)
    · rw [if_neg (fun h => c1 h.2)] at hd hg hl
      rw [decide_eq_false c1]
      exact Ev.step (fun k => by rw [syzygylaw03_QuotArgs.j1]) (Ev.bind hd (Ev.bind hg (Ev.bind hl (Ev.bind hs (Ev.neg (fun h => Bool.noConfusion h) (Ev.pos rfl (Ev.pos rfl (Ev.now _))))))))
  · rw [if_neg (fun h => c0 h.1)] at hd hg hl
    refine Ev.neg (by simpa using c0) ?_
    exact Ev.step (fun k => by rw [syzygylaw03_QuotArgs.j1]) (Ev.bind hd (Ev.bind hg (Ev.bind hl (Ev.bind hs (Ev.neg (fun h => Bool.noConfusion h) (Ev.pos rfl (Ev.pos rfl (Ev.now _))))))))
theorem QuotArgs : syzygylaw03_QuotArgs.Pure := by
  intro l0 l1 _ _ h0 _ _ h1
  refine Ev.rounds ?_
  unfold syzygylaw03_QuotArgs.f
  by_cases c0 : (l0.length : Int) > 20
  · exact Ev.pos c0 (args_shown ..)
  · refine Ev.neg c0 ?_
    by_cases c1 : (l1.length : Int) > 20
    · exact Ev.pos c1 (args_shown ..)
    · exact Ev.neg c1 (Ev.bind qshown_ev (args_core (ok_of_wf h0) (ok_of_wf h1)))
end Go.Proofs.Ytfoickaangjmnaa.Pure
