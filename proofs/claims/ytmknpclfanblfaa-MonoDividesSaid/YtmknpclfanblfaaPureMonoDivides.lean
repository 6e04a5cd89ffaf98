/- MonoDivides: one monomial divides another one just if their least common multiple is that; both ways just if they are the same. -/
import Derived.Test.YtmknpclfanblfaaOMonoDividesMono
set_option linter.unusedVariables false
set_option linter.unusedSimpArgs false
namespace Go.Proofs.Ytmknpclfanblfaa.Pure
open Go.RowKit Go.Proofs.Ytmknpclfanblfaa.POMonoDivides Go.Proofs.Ytmknpclfanblfaa.EOMonoDivides Go.Proofs.YtmknpclfanblfaaN Go.Proofs.YtmknpclfanblfaaW.PrintWords Go.Proofs.YtmknpclfanblfaaW.PrintLast
theorem same4 (x0 x1 x2 x3 y0 y1 y2 y3 : Int) : (x0 == y0 && (x1 == y1 && (x2 == y2 && (x3 == y3)))) = decide (x0 = y0 ∧ x1 = y1 ∧ x2 = y2 ∧ x3 = y3) := by
  rw [Bool.eq_iff_iff, decide_eq_true_iff]
  simp only [Bool.and_eq_true, beq_iff_eq]
theorem MonoDivides : syzygylaw08_MonoDivides.Pure := by
  intro a10 a11 a12 a13 a20 a21 a22 a23 h10 h11 h12 h13 h20 h21 h22 h23
  obtain ⟨x0, x1, x2, x3, ex, hx⟩ := held_eq h10 h11 h12 h13
  obtain ⟨y0, y1, y2, y3, ey, hy⟩ := held_eq h20 h21 h22 h23
  have hx := hx.le (show (20 : Int) ≤ 40 by decide)
  have hy := hy.le (show (20 : Int) ≤ 40 by decide)
  have e1 : ((divd y0 y1 y2 y3 x0 x1 x2 x3).2.2.2.2 == (mx x0 y0 == y0 && (mx x1 y1 == y1 && (mx x2 y2 == y2 && (mx x3 y3 == y3))))) = true := by
    rw [divd_is, same4, beq_iff_eq, Bool.eq_iff_iff, decide_eq_true_iff, decide_eq_true_iff, mx_right, mx_right, mx_right, mx_right]
  have e3 : (mx x0 y0 == mx y0 x0 && (mx x1 y1 == mx y1 x1 && (mx x2 y2 == mx y2 x2 && (mx x3 y3 == mx y3 x3)))) = true := by
    rw [same4, decide_eq_true_iff]; exact ⟨mx_comm _ _, mx_comm _ _, mx_comm _ _, mx_comm _ _⟩
  have e4 : (mx x0 x0 == x0 && (mx x1 x1 == x1 && (mx x2 x2 == x2 && (mx x3 x3 == x3)))) = true := by
    rw [same4, decide_eq_true_iff]; exact ⟨mx_self _, mx_self _, mx_self _, mx_self _⟩
  refine Ev.rounds ?_
  unfold syzygylaw08_MonoDivides.f
  refine Ev.bind_const ex (Ev.bind_const ey (Ev.bind (div_ev hy hx) (Ev.bind (div_ev hx hy) (Ev.bind_const (lcm_eq hx hy) (Ev.pos e1 ?_)))))
  by_cases c : (divd y0 y1 y2 y3 x0 x1 x2 x3).2.2.2.2 = true
  · refine Ev.pos c (Ev.pos ?_ ?_)
    · rw [divd_is, decide_eq_true_iff] at c
      rw [divd_is, same4, beq_iff_eq, Bool.eq_iff_iff, decide_eq_true_iff, decide_eq_true_iff]
      simp only
      omega
    · exact Ev.bind_const (lcm_eq hx hy) (Ev.bind_const (lcm_eq hy hx) (Ev.pos e3 (Ev.bind_const (lcm_eq hx hx) (Ev.pos e4 (Ev.bind_const mshown (Ev.now _))))))
  · refine Ev.neg c (Ev.pos ?_ ?_)
    · rw [divd_is, decide_eq_true_iff] at c
      rw [same4, beq_iff_eq, eq_comm, decide_eq_false_iff_not]
      simp only
      omega
    · exact Ev.bind_const (lcm_eq hx hy) (Ev.bind_const (lcm_eq hy hx) (Ev.pos e3 (Ev.bind_const (lcm_eq hx hx) (Ev.pos e4 (Ev.bind_const mshown (Ev.now _))))))
end Go.Proofs.Ytmknpclfanblfaa.Pure
