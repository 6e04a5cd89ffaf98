/- NatPowers: what any natural is to any power is the document's, or its error. -/
import Derived.Test.YtmknpclfanblfaaONatPowersNatB
set_option linter.unusedVariables false
set_option linter.unusedSimpArgs false
namespace Go.Proofs.Ytmknpclfanblfaa.Pure
open Go.RowKit Go.Proofs.Ytmknpclfanblfaa.PONatPowers Go.Proofs.Ytmknpclfanblfaa.EONatPowers Go.Proofs.YtmknpclfanblfaaN Go.Proofs.YtmknpclfanblfaaW.PrintWords Go.Proofs.YtmknpclfanblfaaW.PrintLast
theorem powers_shown (l0 : List Int) (n : Int) : Ev (fun k => syzygylaw02_NatPowers.j0 k l0 n true) true :=
  Ev.step (fun k => by rw [syzygylaw02_NatPowers.j0]) (Ev.pos rfl (Ev.bind nshown_ev (Ev.now _)))
theorem NatPowers : syzygylaw02_NatPowers.Pure := by
  intro l0 n _ _ h0 hn
  have hn' : n < 9223372036854775808 := by simp [Lit.wf, IntKind.min, IntKind.max, IntKind.signed, IntKind.bits] at hn; omega
  clear hn
  refine Ev.rounds ?_
  unfold syzygylaw02_NatPowers.f
  by_cases c0 : (l0.length : Int) > 20
  · exact Ev.pos c0 (powers_shown ..)
  · refine Ev.neg c0 (Ev.bind nshown_ev (Ev.step (fun k => by rw [syzygylaw02_NatPowers.j0]) (Ev.neg (by simp) ?_)))
    refine Ev.bind (npower_ev (ok_of_wf h0) hn') (Ev.bind (rpower_ev (ok_of_wf h0) hn') (Ev.bind (nsameT ?_ rfl) (Ev.pos rfl (Ev.const (by simp)))))
    split
    · exact Nat.le_trans (told_held _).1 (by decide)
    · exact Nat.zero_le _
end Go.Proofs.Ytmknpclfanblfaa.Pure
