/- LimbOrder: of two rows just one of below, the same and above holds, and what is added keeps the order. -/
import Derived.Test.YtdknpbabdkjhfaaOLimbOrderLimbA
set_option linter.unusedVariables false
set_option linter.unusedSimpArgs false
namespace Go.Proofs.Ytdknpbabdkjhfaa.Pure
open Go.RowKit Go.Proofs.Ytdknpbabdkjhfaa.POLimbOrder Go.Proofs.Ytdknpbabdkjhfaa.EOLimbOrder Go.Proofs.YtdknpbabdkjhfaaN Go.Proofs.YtdknpbabdkjhfaaW.PrintWords Go.Proofs.YtdknpbabdkjhfaaW.PrintLast

theorem order_core {l0 l1 l2 : List Int} (h0 : Ok l0) (h1 : Ok l1) (h2 : Ok l2) (n0 : l0.length ≤ 30) (n1 : l1.length ≤ 30) (n2 : l2.length ≤ 30) : Ev (fun k => syzygylaw01_LimbOrder.j0 k l0 l1 l2 false) true := by
  refine Ev.step (fun k => by rw [syzygylaw01_LimbOrder.j0]) (Ev.neg (by simp) ?_)
  have p0 := val_nonneg h0
  have p1 := val_nonneg h1
  have p2 := val_nonneg h2
  have b0 := cmpv_bd (val l0) (val l1)
  refine Ev.bind (cmp_ev h0 h1 (by omega) (by omega)) (Ev.bind (cmp_ev h1 h0 (by omega) (by omega)) (Ev.pos ?_ (Ev.bind (rtrim_ev h0 (by omega)) (Ev.bind (rtrim_ev h1 (by omega)) (Ev.bind (same_ev _ _ (by have := dg_len_val h0; omega)) (Ev.pos ?_
    (Ev.bind (add_ev h0 h2 (by omega) (by omega)) (Ev.bind (add_ev h1 h2 (by omega) (by omega)) (Ev.bind (cmp_ev (ok_dg _) (ok_dg _) ?_ ?_) (Ev.pos ?_ (Ev.bind (cmp_ev h0 h1 (by omega) (by omega)) ?_)))))))))))
  · rw [cmpv_swap (val l0) (val l1), w64 (by omega)]
    omega
  · rw [same_dg p0 p1, cmpv_eq0]
    simp
  · exact Nat.le_trans (dg_len (m := 31) (add_lt h0 h2 (by omega) (by omega))) (by decide)
  · exact Nat.le_trans (dg_len (m := 31) (add_lt h1 h2 (by omega) (by omega))) (by decide)
  · rw [val_dg (by omega), val_dg (by omega), cmpv_add]
  · by_cases c1 : cmpv (val l0) (val l1) > 0
    · exact Ev.pos c1 (Ev.now _)
    · refine Ev.neg c1 (Ev.bind (cmp_ev h1 h2 (by omega) (by omega)) ?_)
      by_cases c2 : cmpv (val l1) (val l2) > 0
      · exact Ev.pos c2 (Ev.now _)
      · refine Ev.neg c2 (Ev.bind (cmp_ev h0 h2 (by omega) (by omega)) (Ev.const ?_))
        have a1 : ¬ val l1 < val l0 := fun h => c1 (cmpv_pos.2 h)
        have a2 : ¬ val l2 < val l1 := fun h => c2 (cmpv_pos.2 h)
        have a3 : ¬ 0 < cmpv (val l0) (val l2) := fun h => by have := cmpv_pos.1 h; omega
        rw [decide_eq_true (by omega)]
theorem order_shown (l0 l1 l2 : List Int) : Ev (fun k => syzygylaw01_LimbOrder.j0 k l0 l1 l2 true) true :=
  Ev.step (fun k => by rw [syzygylaw01_LimbOrder.j0]) (Ev.pos rfl (Ev.bind shown_ev (Ev.now _)))
theorem LimbOrder : syzygylaw01_LimbOrder.Pure := by
  intro l0 l1 l2 _ _ h0 _ _ h1 _ _ h2
  refine Ev.rounds ?_
  unfold syzygylaw01_LimbOrder.f
  refine Ev.bind_const (heavy_eq _ _) ?_
  by_cases c1 : 30 < l0.length ∨ 30 < l1.length
  · exact Ev.pos (decide_eq_true c1) (order_shown ..)
  · refine Ev.neg (by simpa using c1) (Ev.bind_const (heavy_eq _ _) ?_)
    by_cases c2 : 30 < l2.length ∨ 30 < l2.length
    · exact Ev.pos (decide_eq_true c2) (order_shown ..)
    · refine Ev.neg (by simpa using c2) (Ev.bind shown_ev ?_)
      exact order_core (ok_of_wf h0) (ok_of_wf h1) (ok_of_wf h2) (by omega) (by omega) (by omega)
end Go.Proofs.Ytdknpbabdkjhfaa.Pure
