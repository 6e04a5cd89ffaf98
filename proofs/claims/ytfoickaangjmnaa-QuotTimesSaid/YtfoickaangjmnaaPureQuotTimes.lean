/- QuotTimes: a product, divided by one of both, is the other one, without a rest. -/
import Derived.Test.YtfoickaangjmnaaOQuotTimesL
set_option linter.unusedVariables false
set_option linter.unusedSimpArgs false
namespace Go.Proofs.Ytfoickaangjmnaa.Pure
open Go.RowKit Go.Proofs.Ytfoickaangjmnaa.POQuotTimes Go.Proofs.Ytfoickaangjmnaa.EOQuotTimes Go.Proofs.YtfoickaangjmnaaN Go.Proofs.YtfoickaangjmnaaW.PrintWords Go.Proofs.YtfoickaangjmnaaW.PrintLast
theorem times_shown (a b c : List Int) : Ev (fun k => syzygylaw03_QuotTimes.j0 k a b c true) true :=
  Ev.step (fun k => by rw [syzygylaw03_QuotTimes.j0]) (Ev.pos rfl (Ev.bind qshown_ev (Ev.now _)))
theorem QuotTimes : syzygylaw03_QuotTimes.Pure := by
  intro l0 l1 _ g0 h0 _ g1 h1
  obtain ⟨x, x0, x8, hx⟩ := qheld_ev (ok_of_wf h0) (by omega)
  obtain ⟨y, y0, y8, hy⟩ := qheld_ev (ok_of_wf h1) (by omega)
  clear g0 g1 h0 h1
  refine Ev.rounds ?_
  unfold syzygylaw03_QuotTimes.f
  refine Ev.bind hx (Ev.bind hy ?_)
  clear hx hy
  have rx := Row.dg (x := x) (n := 8) x0 x8
  have ry := Row.dg (x := y) (n := 8) y0 y8
  have hm := rmul_ev rx.1 ry.1 (by have := rx.2.2; omega) (by have := ry.2.2; omega)
  rw [rx.2.1, ry.2.1] at hm
  refine Ev.bind hm ?_
  by_cases c0 : ((dg (x * y)).length : Int) > 8
  · exact Ev.pos c0 (times_shown ..)
  · refine Ev.neg c0 ?_
    by_cases hz : y = 0
    · subst hz
      exact Ev.pos ((dg_len0 (Int.le_refl 0)).2 rfl) (times_shown ..)
    · have yp : 0 < y := by omega
      have p0 := Int.mul_nonneg x0 y0
      have p8 : x * y < B ^ 8 := len_dg (by omega)
      have hd := div_ev (ok_dg (x * y)) (ok_dg y)
      rw [divd_dg p0 yp p8 y8, Int.mul_ediv_cancel _ hz, Int.mul_emod_left, dg_zero] at hd
      have hg := gcd_ev (ok_dg (x * y)) (ok_dg y)
      unfold gcdd at hg
      have eg : gcdv (x * y) y = y := by
        rw [← gcdv_rec p0 yp, Int.mul_emod_left, gcdv_zero y0]
      rw [if_pos ⟨held_of_dg p8, held_of_dg y8⟩, val_dg p0, val_dg y0, eg] at hg
      have lx := dg_len x8
      have ly := dg_len y8
      refine Ev.neg (fun h => hz ((dg_len0 y0).1 h)) (Ev.bind qshown_ev (Ev.step (fun k => by rw [syzygylaw03_QuotTimes.j0]) (Ev.neg (by simp) (Ev.bind hd (Ev.bind hg (Ev.pos rfl ?_))))))
      exact Ev.bind (nsameT (by simp only; omega) rfl) (Ev.pos rfl (Ev.pos rfl (Ev.pos rfl (Ev.bind (nsameT (by simp only; omega) rfl) (Ev.now _)))))
end Go.Proofs.Ytfoickaangjmnaa.Pure
