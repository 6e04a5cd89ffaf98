/- MonoKept: times any monomial an order is kept; what divides another one is not above it. -/
import Derived.Test.YtmknpclfanblfaaOMonoKeptMono
set_option linter.unusedVariables false
set_option linter.unusedSimpArgs false
namespace Go.Proofs.Ytmknpclfanblfaa.Pure
open Go.RowKit Go.Proofs.Ytmknpclfanblfaa.POMonoKept Go.Proofs.Ytmknpclfanblfaa.EOMonoKept Go.Proofs.YtmknpclfanblfaaN Go.Proofs.YtmknpclfanblfaaW.PrintWords Go.Proofs.YtmknpclfanblfaaW.PrintLast
theorem MonoKept : syzygylaw08_MonoKept.Pure := by
  intro a0 a10 a11 a12 a13 a20 a21 a22 a23 a30 a31 a32 a33 h0 h10 h11 h12 h13 h20 h21 h22 h23 h30 h31 h32 h33
  obtain ⟨x0, x1, x2, x3, ex, hx⟩ := held_eq h10 h11 h12 h13
  obtain ⟨y0, y1, y2, y3, ey, hy⟩ := held_eq h20 h21 h22 h23
  obtain ⟨z0, z1, z2, z3, ez, hz⟩ := held_eq h30 h31 h32 h33
  obtain ⟨o, eo, ho⟩ := order_eq h0
  have sx : In4 40 (x0 + z0) (x1 + z1) (x2 + z2) (x3 + z3) := by unfold In4 at *; omega
  have sy : In4 40 (y0 + z0) (y1 + z1) (y2 + z2) (y3 + z3) := by unfold In4 at *; omega
  have hx := hx.le (show (20 : Int) ≤ 40 by decide)
  have hy := hy.le (show (20 : Int) ≤ 40 by decide)
  have hz := hz.le (show (20 : Int) ≤ 40 by decide)
  have key : ∀ {p0 p1 p2 p3 q0 q1 q2 q3 : Int}, In4 40 p0 p1 p2 p3 → In4 40 q0 q1 q2 q3 → mono_Cmp.f o p0 p1 p2 p3 q0 q1 q2 q3 = some (cmpi (wt o p0 p1 p2 p3) (wt o q0 q1 q2 q3)) := fun hp hq => by unfold mono_Cmp.f; rw [mcmp_eq ho hp hq]
  have e1 : cmpi (wt o (x0 + z0) (x1 + z1) (x2 + z2) (x3 + z3)) (wt o (y0 + z0) (y1 + z1) (y2 + z2) (y3 + z3)) = cmpi (wt o x0 x1 x2 x3) (wt o y0 y1 y2 y3) := by
    rw [wt_add, wt_add, cmpi_add]
  have e2 : cmpi (wt o (x0 + z0) (x1 + z1) (x2 + z2) (x3 + z3)) (wt o x0 x1 x2 x3) ≥ 0 := by
    have := wt_pos (o := o) hz
    rw [wt_add]
    rcases cmpi_cases (wt o x0 x1 x2 x3 + wt o z0 z1 z2 z3) (wt o x0 x1 x2 x3) with ⟨e, h⟩ | ⟨e, h⟩ | ⟨e, h⟩ <;> omega
  refine Ev.rounds ?_
  unfold syzygylaw08_MonoKept.f
  rw [ex, eo]
  refine Ev.bind_const rfl (Ev.bind_const ez (Ev.bind (mul_ev hx hz sx) (Ev.bind_const ey (Ev.bind_const ez (Ev.bind (mul_ev hy hz sy) (Ev.pos rfl (Ev.pos rfl ?_)))))))
  refine Ev.bind_const (key sx sy) (Ev.bind_const rfl (Ev.bind_const ey (Ev.bind_const (key hx hy) (Ev.pos e1 (Ev.bind_const rfl (Ev.bind_const (key sx hx) (Ev.pos e2 (Ev.bind_const mshown (Ev.now _)))))))))
end Go.Proofs.Ytmknpclfanblfaa.Pure
