/- The references of nat's functions, as numbers. -/
import Derived.Test.YtmknpclfanblfaaONatTellsNatA
import Derived.Test.YtmknpclfanblfaaONatTellsLimbC
import Derived.Test.YtmknpclfanblfaaONatTellsLimbD
set_option linter.unusedVariables false
set_option linter.unusedSimpArgs false
namespace Go.Proofs.Ytmknpclfanblfaa.EONatTells
open Go.RowKit Go.Proofs.Ytmknpclfanblfaa.PONatTells Go.Proofs.YtmknpclfanblfaaN Go.Proofs.YtmknpclfanblfaaW.PrintWords Go.Proofs.YtmknpclfanblfaaW.PrintLast Go.Proofs.YtmknpclfanblfaaW.PrintMore
theorem rheld_ev (x : Int) : syzygyref02_held.f (dg x) = some (told x) := by
  unfold syzygyref02_held.f told
  by_cases h : 8 < (dg x).length
  · rw [if_pos h, if_pos (by omega)]
  · rw [if_neg h, if_neg (by omega)]
theorem rnmul_ev {a b : List Int} (ha : Ok a) (hb : Ok b) : Ev (fun k => syzygyref02_Mul.f k a b) (if Held a ∧ Held b then told (val a * val b) else ([], 1)) := by
  unfold syzygyref02_Mul.f
  refine Ev.bind_const (rmay_eq a) ?_
  by_cases h1 : Held a
  · refine Ev.pos (decide_eq_true h1) (Ev.bind_const (rmay_eq b) ?_)
    by_cases h2 : Held b
    · rw [if_pos ⟨h1, h2⟩, decide_eq_true h2]
      exact Ev.step (fun k => by rw [syzygyref02_Mul.j0]) (Ev.neg (by simp) (Ev.bind (rmul_ev ha hb (by have := h1.1; omega) (by have := h2.1; omega)) (Ev.bind_const (rheld_ev _) (Ev.now _))))
    · rw [if_neg (fun h => h2 h.2), decide_eq_false h2]
      exact Ev.step (fun k => by rw [syzygyref02_Mul.j0]) (Ev.pos (c := (!false) = true) rfl (Ev.now _))
  · rw [if_neg (fun h => h1 h.1)]
    exact Ev.neg (by simpa using h1) (Ev.step (fun k => by rw [syzygyref02_Mul.j0]) (Ev.pos rfl (Ev.now _)))
theorem rnadd_ev {a b : List Int} (ha : Ok a) (hb : Ok b) : Ev (fun k => syzygyref02_Add.f k a b) (if Held a ∧ Held b then told (val a + val b) else ([], 1)) := by
  unfold syzygyref02_Add.f
  refine Ev.bind_const (rmay_eq a) ?_
  by_cases h1 : Held a
  · refine Ev.pos (decide_eq_true h1) (Ev.bind_const (rmay_eq b) ?_)
    by_cases h2 : Held b
    · rw [if_pos ⟨h1, h2⟩, decide_eq_true h2]
      exact Ev.step (fun k => by rw [syzygyref02_Add.j0]) (Ev.neg (by simp) (Ev.bind (radd_ev ha hb (by have := h1.1; omega) (by have := h2.1; omega)) (Ev.bind_const (rheld_ev _) (Ev.now _))))
    · rw [if_neg (fun h => h2 h.2), decide_eq_false h2]
      exact Ev.step (fun k => by rw [syzygyref02_Add.j0]) (Ev.pos (c := (!false) = true) rfl (Ev.now _))
  · rw [if_neg (fun h => h1 h.1)]
    exact Ev.neg (by simpa using h1) (Ev.step (fun k => by rw [syzygyref02_Add.j0]) (Ev.pos rfl (Ev.now _)))
theorem rnsub_ev {a b : List Int} (ha : Ok a) (hb : Ok b) : Ev (fun k => syzygyref02_Sub.f k a b) (if Held a ∧ Held b then (if val a < val b then ([], 20) else (dg (val a - val b), 0)) else ([], 1)) := by
  unfold syzygyref02_Sub.f
  refine Ev.bind_const (rmay_eq a) ?_
  by_cases h1 : Held a
  · refine Ev.pos (decide_eq_true h1) (Ev.bind_const (rmay_eq b) ?_)
    by_cases h2 : Held b
    · rw [if_pos ⟨h1, h2⟩, decide_eq_true h2]
      refine Ev.step (fun k => by rw [syzygyref02_Sub.j0]) (Ev.neg (by simp) (Ev.bind (rsub_ev ha hb (by have := h1.1; omega) (by have := h2.1; omega)) ?_))
      by_cases h : val a < val b
      · rw [if_pos h, if_pos h]; exact Ev.neg (by simp) (Ev.now _)
      · rw [if_neg h, if_neg h]; exact Ev.pos rfl (Ev.now _)
    · rw [if_neg (fun h => h2 h.2), decide_eq_false h2]
      exact Ev.step (fun k => by rw [syzygyref02_Sub.j0]) (Ev.pos (c := (!false) = true) rfl (Ev.now _))
  · rw [if_neg (fun h => h1 h.1)]
    exact Ev.neg (by simpa using h1) (Ev.step (fun k => by rw [syzygyref02_Sub.j0]) (Ev.pos rfl (Ev.now _)))
theorem rncmp_ev {a b : List Int} (ha : Ok a) (hb : Ok b) (hal : a.length ≤ 4294967296) (hbl : b.length ≤ 4294967296) : Ev (fun k => syzygyref02_Cmp.f k a b) (cmpv (val a) (val b)) := Ev.bind (rcmp_ev ha hb hal hbl) (Ev.now _)
theorem rof_ev {n : Int} (h : 0 ≤ n ∧ n < B) : Ev (fun k => syzygyref02_Of.f k n) (dg n) := by
  have := rtrim_ev (Ok.one h.1 h.2) (show [n].length < 17592186044416 from by simp)
  rw [val_one] at this
  exact Ev.bind this (Ev.now _)
end Go.Proofs.Ytmknpclfanblfaa.EONatTells
