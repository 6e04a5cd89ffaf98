/- NatTells: what any two naturals come to is the document's, or its error. -/
import Derived.Test.YtmknpclfanblfaaONatTellsNatC
set_option linter.unusedVariables false
set_option linter.unusedSimpArgs false
namespace Go.Proofs.Ytmknpclfanblfaa.Pure
open Go.RowKit Go.Proofs.Ytmknpclfanblfaa.PONatTells Go.Proofs.Ytmknpclfanblfaa.EONatTells Go.Proofs.YtmknpclfanblfaaN Go.Proofs.YtmknpclfanblfaaW.PrintWords Go.Proofs.YtmknpclfanblfaaW.PrintLast
theorem tells_shown (l0 l1 : List Int) (n : Int) : Ev (fun k => syzygylaw02_NatTells.j0 k l0 l1 n true) true :=
  Ev.step (fun k => by rw [syzygylaw02_NatTells.j0]) (Ev.pos rfl (Ev.bind nshown_ev (Ev.now _)))
theorem tells_core {l0 l1 : List Int} {n : Int} (h0 : Ok l0) (h1 : Ok l1) (hn : 0 ≤ n ∧ n < B) (n0 : l0.length ≤ 20) (n1 : l1.length ≤ 20) : Ev (fun k => syzygylaw02_NatTells.j0 k l0 l1 n false) true := by
  have t8 : ∀ x : Int, (told x).1.length ≤ 17592186044416 := fun x => Nat.le_trans (told_held x).1 (by decide)
  have ha : (if Held l0 ∧ Held l1 then told (val l0 + val l1) else ([], 1)).1.length ≤ 17592186044416 := by split; exact t8 _; exact Nat.zero_le _
  have hm : (if Held l0 ∧ Held l1 then told (val l0 * val l1) else ([], 1)).1.length ≤ 17592186044416 := by split; exact t8 _; exact Nat.zero_le _
  have hs : (if Held l0 ∧ Held l1 then (if val l0 < val l1 then ([], 20) else (dg (val l0 - val l1), (0 : Int))) else ([], 1)).1.length ≤ 17592186044416 := by
    split
    · split
      · exact Nat.zero_le _
      · have := ((Row.of h0 n0).sub (Row.of h1 n1) (by omega)).2.2
        exact Nat.le_trans this (by decide)
    · exact Nat.zero_le _
  refine Ev.step (fun k => by rw [syzygylaw02_NatTells.j0]) (Ev.neg (by simp) ?_)
  refine Ev.bind (nadd_ev h0 h1) (Ev.bind (rnadd_ev h0 h1) (Ev.bind (nsub_ev h0 h1) (Ev.bind (rnsub_ev h0 h1) (Ev.bind (nmul_ev h0 h1) (Ev.bind (rnmul_ev h0 h1) ?_)))))
  refine Ev.bind (nsameT ha rfl) (Ev.pos rfl (Ev.pos rfl (Ev.bind (nsameT hs rfl) (Ev.pos rfl (Ev.pos rfl (Ev.bind (nsameT hm rfl) (Ev.pos rfl (Ev.pos rfl ?_))))))))
  refine Ev.bind_const (may_eq _) (Ev.bind_const (rmay_eq _) (Ev.pos (by simp) (Ev.bind (ncmp_ev h0 h1 (by omega) (by omega)) (Ev.bind (rncmp_ev h0 h1 (by omega) (by omega)) (Ev.pos rfl (Ev.bind_const (of_eq hn) (Ev.bind (rof_ev hn) (Ev.bind (nsameT ?_ rfl) (Ev.now _)))))))))
  exact Nat.le_trans (dg_len (m := 8) (by have := B8; omega)) (by decide)
theorem NatTells : syzygylaw02_NatTells.Pure := by
  intro l0 l1 n _ _ h0 _ _ h1 hn
  have hn' : 0 ≤ n ∧ n < B := by simp [Lit.wf, IntKind.min, IntKind.max, IntKind.signed, IntKind.bits] at hn; rw [B_eq]; omega
  clear hn
  refine Ev.rounds ?_
  unfold syzygylaw02_NatTells.f
  by_cases c0 : (l0.length : Int) > 20
  · exact Ev.pos c0 (tells_shown ..)
  · refine Ev.neg c0 ?_
    by_cases c1 : (l1.length : Int) > 20
    · exact Ev.pos c1 (tells_shown ..)
    · exact Ev.neg c1 (Ev.bind nshown_ev (tells_core (ok_of_wf h0) (ok_of_wf h1) hn' (by omega) (by omega)))
end Go.Proofs.Ytmknpclfanblfaa.Pure
