/- QuotBack: what is divided is the divisor times the quotient, and the rest, which is below it. -/
import Derived.Test.YtfoickaangjmnaaOQuotBackL
set_option linter.unusedVariables false
set_option linter.unusedSimpArgs false
namespace Go.Proofs.Ytfoickaangjmnaa.Pure
open Go.RowKit Go.Proofs.Ytfoickaangjmnaa.POQuotBack Go.Proofs.Ytfoickaangjmnaa.EOQuotBack Go.Proofs.YtfoickaangjmnaaN Go.Proofs.YtfoickaangjmnaaW.PrintWords Go.Proofs.YtfoickaangjmnaaW.PrintLast
theorem QuotBack : syzygylaw03_QuotBack.Pure := by
  intro l0 l1 _ g0 h0 _ g1 h1
  obtain ⟨x, x0, x8, hx⟩ := qheld_ev (ok_of_wf h0) (by omega)
  obtain ⟨y, y0, y8, hy⟩ := qheld_ev (ok_of_wf h1) (by omega)
  clear g0 g1 h0 h1
  refine Ev.rounds ?_
  unfold syzygylaw03_QuotBack.f
  refine Ev.bind hx (Ev.bind hy ?_)
  clear hx hy
  have hd := div_ev (ok_dg x) (ok_dg y)
  by_cases hz : y = 0
  · subst hz
    rw [dg_zero] at hd ⊢
    unfold divd at hd
    rw [if_pos ⟨held_of_dg x8, by exact ⟨Nat.zero_le _, .inl rfl⟩⟩, if_pos val_nil] at hd
    exact Ev.bind hd (Ev.pos rfl (Ev.pos rfl (Ev.pos rfl (Ev.pos rfl (Ev.bind qshown_ev (Ev.now _))))))
  · have yp : 0 < y := by omega
    rw [divd_dg x0 yp x8 y8] at hd
    have q0 := Int.ediv_nonneg x0 y0
    have q1 := Int.ediv_le_self y x0
    have r0 := Int.emod_nonneg x hz
    have r1 := Int.emod_lt_of_pos x yp
    have rq := Row.dg (x := x / y) (n := 8) q0 (by omega)
    have rr := Row.dg (x := x % y) (n := 8) r0 (by omega)
    have ry := Row.dg (x := y) (n := 8) y0 y8
    have hm := rmul_ev rq.1 ry.1 (by have := rq.2.2; omega) (by have := ry.2.2; omega)
    rw [rq.2.1, ry.2.1] at hm
    have rm := rq.mul ry (p := 16) (Nat.le_refl _)
    have ha := radd_ev rm.1 rr.1 (by have := rm.2.2; omega) (by have := rr.2.2; omega)
    have e : x / y * y + x % y = x := by rw [Int.mul_comm]; exact Int.mul_ediv_add_emod x y
    rw [rm.2.1, rr.2.1, e] at ha
    have hc := rcmp_ev rr.1 ry.1 (by have := rr.2.2; omega) (by have := ry.2.2; omega)
    rw [rr.2.1, ry.2.1] at hc
    have hln : ¬ ((dg y).length : Int) = 0 := fun h => hz ((dg_len0 y0).1 h)
    refine Ev.bind hd (Ev.neg hln (Ev.pos rfl (Ev.bind hc (Ev.pos (cmpv_neg.2 r1) (Ev.bind hm (Ev.bind ha ?_))))))
    exact Ev.bind (nsameT (by have := dg_len x8; omega) rfl) (Ev.pos rfl (Ev.bind qshown_ev (Ev.now _)))
end Go.Proofs.Ytfoickaangjmnaa.Pure
