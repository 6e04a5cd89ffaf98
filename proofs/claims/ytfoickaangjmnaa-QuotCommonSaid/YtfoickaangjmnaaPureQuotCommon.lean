/- QuotCommon: what any two naturals have in common, and what both divide, is the document's, or its error. -/
import Derived.Test.YtfoickaangjmnaaOQuotCommonL
set_option linter.unusedVariables false
set_option linter.unusedSimpArgs false
namespace Go.Proofs.Ytfoickaangjmnaa.Pure
open Go.RowKit Go.Proofs.Ytfoickaangjmnaa.POQuotCommon Go.Proofs.Ytfoickaangjmnaa.EOQuotCommon Go.Proofs.YtfoickaangjmnaaN Go.Proofs.YtfoickaangjmnaaW.PrintWords Go.Proofs.YtfoickaangjmnaaW.PrintLast
theorem common_shown (l0 l1 : List Int) : Ev (fun k => syzygylaw03_QuotCommon.j0 k l0 l1 true) true :=
  Ev.step (fun k => by rw [syzygylaw03_QuotCommon.j0]) (Ev.pos rfl (Ev.bind qshown_ev (Ev.now _)))
theorem common_core {l0 l1 : List Int} (h0 : Ok l0) (h1 : Ok l1) : Ev (fun k => syzygylaw03_QuotCommon.j0 k l0 l1 (!true)) true := by
  have d := gcdd_len h0 h1
  have s := lcmd_len l0 l1
  refine Ev.step (fun k => by rw [syzygylaw03_QuotCommon.j0]) (Ev.neg (by simp) ?_)
  refine Ev.bind (gcd_ev h0 h1) (Ev.bind (rgcd_ev h0 h1) (Ev.bind (lcm_ev h0 h1) (Ev.bind (rlcm_ev h0 h1) ?_)))
  refine Ev.bind (nsameT (by omega) rfl) (Ev.pos rfl (Ev.pos rfl (Ev.bind (nsameT (by omega) rfl) (Ev.pos rfl ?_))))
  exact Ev.eq (Ev.now _) (beq_self_eq_true _)
theorem QuotCommon : syzygylaw03_QuotCommon.Pure := by
  intro l0 l1 _ _ h0 _ _ h1
  refine Ev.rounds ?_
  unfold syzygylaw03_QuotCommon.f
  by_cases c0 : (l0.length : Int) > 20
  · exact Ev.pos c0 (common_shown ..)
  · refine Ev.neg c0 ?_
    by_cases c1 : (l1.length : Int) > 20
    · exact Ev.pos c1 (common_shown ..)
    · exact Ev.neg c1 (Ev.bind qshown_ev (common_core (ok_of_wf h0) (ok_of_wf h1)))
end Go.Proofs.Ytfoickaangjmnaa.Pure
