/- MonoBack: a product is divided by one of both, and is the other one; the least that both divide is divided by both, and divides their product. -/
import Derived.Test.YtmknpclfanblfaaOMonoBackMono
set_option linter.unusedVariables false
set_option linter.unusedSimpArgs false
namespace Go.Proofs.Ytmknpclfanblfaa.Pure
open Go.RowKit Go.Proofs.Ytmknpclfanblfaa.POMonoBack Go.Proofs.Ytmknpclfanblfaa.EOMonoBack Go.Proofs.YtmknpclfanblfaaN Go.Proofs.YtmknpclfanblfaaW.PrintWords Go.Proofs.YtmknpclfanblfaaW.PrintLast
theorem mx_sum {x y : Int} (hx : 0 ≤ x) (hy : 0 ≤ y) : mx x y ≤ x + y := by unfold mx; split <;> omega
theorem MonoBack : syzygylaw08_MonoBack.Pure := by
  intro a10 a11 a12 a13 a20 a21 a22 a23 h10 h11 h12 h13 h20 h21 h22 h23
  obtain ⟨x0, x1, x2, x3, ex, hx⟩ := held_eq h10 h11 h12 h13
  obtain ⟨y0, y1, y2, y3, ey, hy⟩ := held_eq h20 h21 h22 h23
  have hs : In4 40 (x0 + y0) (x1 + y1) (x2 + y2) (x3 + y3) := by unfold In4 at *; omega
  have hx := hx.le (show (20 : Int) ≤ 40 by decide)
  have hy := hy.le (show (20 : Int) ≤ 40 by decide)
  have hl := lcm_in hx hy
  have hx' := hx
  have hy' := hy
  unfold In4 at hx' hy'
  have dv1 : divd (x0 + y0) (x1 + y1) (x2 + y2) (x3 + y3) y0 y1 y2 y3 = (x0, x1, x2, x3, true) := by
    rw [divd_yes (by omega)]; simp only [Int.add_sub_cancel]
  have m0 := mx_le x0 y0
  have m1 := mx_le x1 y1
  have m2 := mx_le x2 y2
  have m3 := mx_le x3 y3
  have dv2 := divd_yes (x0 := mx x0 y0) (x1 := mx x1 y1) (x2 := mx x2 y2) (x3 := mx x3 y3) (y0 := x0) (y1 := x1) (y2 := x2) (y3 := x3) ⟨m0.1, m1.1, m2.1, m3.1⟩
  have dv3 := divd_yes (x0 := mx x0 y0) (x1 := mx x1 y1) (x2 := mx x2 y2) (x3 := mx x3 y3) (y0 := y0) (y1 := y1) (y2 := y2) (y3 := y3) ⟨m0.2, m1.2, m2.2, m3.2⟩
  have dv4 := divd_yes (x0 := x0 + y0) (x1 := x1 + y1) (x2 := x2 + y2) (x3 := x3 + y3) (y0 := mx x0 y0) (y1 := mx x1 y1) (y2 := mx x2 y2) (y3 := mx x3 y3) ⟨mx_sum (by omega) (by omega), mx_sum (by omega) (by omega), mx_sum (by omega) (by omega), mx_sum (by omega) (by omega)⟩
  have dg : ∀ {p0 p1 p2 p3 : Int}, In4 40 p0 p1 p2 p3 → mono_Degree.f p0 p1 p2 p3 = some (p0 + p1 + p2 + p3) := fun hp => by unfold mono_Degree.f degv; rw [if_pos (hp.mays (Int.le_refl _))]
  have hc : ((mn x0 y0 == 0 && (mn x1 y1 == 0 && (mn x2 y2 == 0 && (mn x3 y3 == 0)))) == (mx x0 y0 == x0 + y0 && (mx x1 y1 == x1 + y1 && (mx x2 y2 == x2 + y2 && (mx x3 y3 == x3 + y3))))) = true := by
    rw [mn_zero hx'.1.1 hy'.1.1, mn_zero hx'.2.1.1 hy'.2.1.1, mn_zero hx'.2.2.1.1 hy'.2.2.1.1, mn_zero hx'.2.2.2.1 hy'.2.2.2.1, beq_iff_eq]
  have hd : x0 + y0 + (x1 + y1) + (x2 + y2) + (x3 + y3) = wrap64 (x0 + x1 + x2 + x3 + (y0 + y1 + y2 + y3)) := by rw [w64 (by omega)]; omega
  refine Ev.rounds ?_
  unfold syzygylaw08_MonoBack.f
  refine Ev.bind_const ex (Ev.bind_const ey (Ev.bind (mul_ev hx hy hs) (Ev.bind (Ev.eq (div_ev hs hy) dv1) (Ev.bind_const (lcm_eq hx hy) (Ev.bind (Ev.eq (div_ev hl hx) dv2) (Ev.bind (Ev.eq (div_ev hl hy) dv3) (Ev.bind (Ev.eq (div_ev hs hl) dv4) ?_)))))))
  exact Ev.pos rfl (Ev.pos rfl (Ev.pos (by simp) (Ev.pos rfl (Ev.pos rfl (Ev.pos rfl (Ev.bind_const (cop_eq hx hy) (Ev.pos hc (Ev.bind_const (dg hs) (Ev.bind_const (dg hx) (Ev.bind_const (dg hy) (Ev.pos hd (Ev.bind_const mshown (Ev.now _)))))))))))))
end Go.Proofs.Ytmknpclfanblfaa.Pure
