/- QuotTells: the quotient and the rest of any two naturals are the document's, or its error. -/
import Derived.Test.YtfoickaangjmnaaOQuotTellsL
set_option linter.unusedVariables false
set_option linter.unusedSimpArgs false
namespace Go.Proofs.Ytfoickaangjmnaa.Pure
open Go.RowKit Go.Proofs.Ytfoickaangjmnaa.POQuotTells Go.Proofs.Ytfoickaangjmnaa.EOQuotTells Go.Proofs.YtfoickaangjmnaaN Go.Proofs.YtfoickaangjmnaaW.PrintWords Go.Proofs.YtfoickaangjmnaaW.PrintLast
theorem tells_shown (l0 l1 : List Int) (n : Int) : Ev (fun k => syzygylaw03_QuotTells.j0 k l0 l1 n true) true :=
  Ev.step (fun k => by rw [syzygylaw03_QuotTells.j0]) (Ev.pos rfl (Ev.bind qshown_ev (Ev.now _)))
theorem tells_core {l0 l1 : List Int} {n : Int} (h0 : Ok l0) (h1 : Ok l1) (hn : 0 ≤ n ∧ n < B) : Ev (fun k => syzygylaw03_QuotTells.j0 k l0 l1 n (!true)) true := by
  have d := divd_len h0 h1
  have s := smalld_len h0 (n := n)
  refine Ev.step (fun k => by rw [syzygylaw03_QuotTells.j0]) (Ev.neg (by simp) ?_)
  refine Ev.bind (div_ev h0 h1) (Ev.bind (rdiv_ev h0 h1) (Ev.bind (small_ev h0 hn.1 hn.2) (Ev.bind (rsmall_ev h0 hn.1 hn.2) ?_)))
  refine Ev.bind (nsameT (by omega) rfl) (Ev.pos rfl (Ev.bind (nsameT (by omega) rfl) (Ev.pos rfl (Ev.pos rfl (Ev.bind (nsameT (by omega) rfl) (Ev.pos rfl (Ev.pos rfl ?_)))))))
  exact Ev.eq (Ev.now _) (beq_self_eq_true _)
theorem QuotTells : syzygylaw03_QuotTells.Pure := by
  intro l0 l1 n _ _ h0 _ _ h1 hn
  have hn' : 0 ≤ n ∧ n < B := by simp [Lit.wf, IntKind.min, IntKind.max, IntKind.signed, IntKind.bits] at hn; rw [B_eq]; omega
  clear hn
  refine Ev.rounds ?_
  unfold syzygylaw03_QuotTells.f
  by_cases c0 : (l0.length : Int) > 20
  · exact Ev.pos c0 (tells_shown ..)
  · refine Ev.neg c0 ?_
    by_cases c1 : (l1.length : Int) > 20
    · exact Ev.pos c1 (tells_shown ..)
    · exact Ev.neg c1 (Ev.bind qshown_ev (tells_core (ok_of_wf h0) (ok_of_wf h1) hn'))
end Go.Proofs.Ytfoickaangjmnaa.Pure
