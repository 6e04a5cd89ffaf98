/- MonoOrder: each order is one of all monomials. -/
import Derived.Test.YtmknpclfanblfaaOMonoOrderMono
set_option linter.unusedVariables false
set_option linter.unusedSimpArgs false
namespace Go.Proofs.Ytmknpclfanblfaa.Pure
open Go.RowKit Go.Proofs.Ytmknpclfanblfaa.POMonoOrder Go.Proofs.Ytmknpclfanblfaa.EOMonoOrder Go.Proofs.YtmknpclfanblfaaN Go.Proofs.YtmknpclfanblfaaW.PrintWords Go.Proofs.YtmknpclfanblfaaW.PrintLast
theorem MonoOrder : syzygylaw08_MonoOrder.Pure := by
  intro a0 a10 a11 a12 a13 a20 a21 a22 a23 a30 a31 a32 a33 h0 h10 h11 h12 h13 h20 h21 h22 h23 h30 h31 h32 h33
  obtain ⟨x0, x1, x2, x3, ex, hx⟩ := held_eq h10 h11 h12 h13
  obtain ⟨y0, y1, y2, y3, ey, hy⟩ := held_eq h20 h21 h22 h23
  obtain ⟨z0, z1, z2, z3, ez, hz⟩ := held_eq h30 h31 h32 h33
  obtain ⟨o, eo, ho⟩ := order_eq h0
  have hx := hx.le (show (20 : Int) ≤ 40 by decide)
  have hy := hy.le (show (20 : Int) ≤ 40 by decide)
  have hz := hz.le (show (20 : Int) ≤ 40 by decide)
  have h4 : In4 40 0 0 0 0 := by unfold In4; omega
  have key : ∀ {p0 p1 p2 p3 q0 q1 q2 q3 : Int}, In4 40 p0 p1 p2 p3 → In4 40 q0 q1 q2 q3 → mono_Cmp.f o p0 p1 p2 p3 q0 q1 q2 q3 = some (cmpi (wt o p0 p1 p2 p3) (wt o q0 q1 q2 q3)) := fun hp hq => by unfold mono_Cmp.f; rw [mcmp_eq ho hp hq]
  have hp0 := wt_pos (o := o) hx
  have w0 := wt_zero o
  have e1 : cmpi (wt o x0 x1 x2 x3) (wt o y0 y1 y2 y3) = wrap64 (-cmpi (wt o y0 y1 y2 y3) (wt o x0 x1 x2 x3)) := by
    rcases cmpi_cases (wt o x0 x1 x2 x3) (wt o y0 y1 y2 y3) with ⟨e, h⟩ | ⟨e, h⟩ | ⟨e, h⟩
    · rw [e, cmpi_gt h]; unfold wrap64; omega
    · rw [e, cmpi_lt h]; unfold wrap64; omega
    · rw [h, cmpi_self]; unfold wrap64; omega
  have e2 : ((cmpi (wt o x0 x1 x2 x3) (wt o y0 y1 y2 y3) == 0) == (x0 == y0 && (x1 == y1 && (x2 == y2 && (x3 == y3))))) = true := by
    rw [beq_iff_eq, Bool.eq_iff_iff, beq_iff_eq]
    simp only [Bool.and_eq_true, beq_iff_eq]
    constructor
    · intro h
      rcases cmpi_cases (wt o x0 x1 x2 x3) (wt o y0 y1 y2 y3) with ⟨e, _⟩ | ⟨e, _⟩ | ⟨_, h'⟩
      · omega
      · omega
      · exact wt_inj hx hy h'
    · rintro ⟨rfl, rfl, rfl, rfl⟩
      exact cmpi_self _
  have e3 : 0 ≤ cmpi (wt o x0 x1 x2 x3) (wt o 0 0 0 0) := by
    rw [w0]
    rcases cmpi_cases (wt o x0 x1 x2 x3) 0 with ⟨e, h⟩ | ⟨e, h⟩ | ⟨e, h⟩ <;> omega
  have e4 : ¬ cmpi (wt o x0 x1 x2 x3) (wt o y0 y1 y2 y3) < 0 → ¬ cmpi (wt o y0 y1 y2 y3) (wt o z0 z1 z2 z3) < 0 → 0 ≤ cmpi (wt o x0 x1 x2 x3) (wt o z0 z1 z2 z3) := by
    intro q1 q2
    rcases cmpi_cases (wt o x0 x1 x2 x3) (wt o y0 y1 y2 y3) with ⟨e, h⟩ | ⟨e, h⟩ | ⟨e, h⟩ <;> rcases cmpi_cases (wt o y0 y1 y2 y3) (wt o z0 z1 z2 z3) with ⟨e', h'⟩ | ⟨e', h'⟩ | ⟨e', h'⟩ <;> rcases cmpi_cases (wt o x0 x1 x2 x3) (wt o z0 z1 z2 z3) with ⟨e'', h''⟩ | ⟨e'', h''⟩ | ⟨e'', h''⟩ <;> omega
  unfold syzygylaw08_MonoOrder.f
  rw [ex, some_bind, ey, some_bind, ez, some_bind, eo]
  simp only
  rw [key hx hy, some_bind, key hy hx, some_bind, if_pos e1, if_pos e2]
  by_cases c1 : cmpi (wt o x0 x1 x2 x3) (wt o y0 y1 y2 y3) < 0
  · rw [if_pos c1, key hx h4, some_bind, if_pos e3, mshown]; rfl
  · rw [if_neg c1, key hy hz, some_bind]
    by_cases c2 : cmpi (wt o y0 y1 y2 y3) (wt o z0 z1 z2 z3) < 0
    · rw [if_pos c2, key hx h4, some_bind, if_pos e3, mshown]; rfl
    · rw [if_neg c2, key hx hz, some_bind, if_pos (e4 c1 c2), key hx h4, some_bind, if_pos e3, mshown]; rfl
end Go.Proofs.Ytmknpclfanblfaa.Pure
