/- MonoTells: what any two monomials come to, and which is above, is the document's, or its error. -/
import Derived.Test.YtmknpclfanblfaaOMonoTellsMonoR
set_option linter.unusedVariables false
set_option linter.unusedSimpArgs false
namespace Go.Proofs.Ytmknpclfanblfaa.Pure
open Go.RowKit Go.Proofs.Ytmknpclfanblfaa.POMonoTells Go.Proofs.Ytmknpclfanblfaa.EOMonoTells Go.Proofs.YtmknpclfanblfaaN Go.Proofs.YtmknpclfanblfaaW.PrintWords Go.Proofs.YtmknpclfanblfaaW.PrintLast
theorem MonoTells : syzygylaw08_MonoTells.Pure := by
  intro o x0 x1 x2 x3 y0 y1 y2 y3 _ _ _ _ _ _ _ _ _
  obtain ⟨K1, h1⟩ := mul_r x0 x1 x2 x3 y0 y1 y2 y3
  obtain ⟨K2, h2⟩ := div_r x0 x1 x2 x3 y0 y1 y2 y3
  have h1 : mono_Mul.f (K1 + K2) x0 x1 x2 x3 y0 y1 y2 y3 = _ := h1 _ (by omega)
  have h2 : mono_Div.f (K1 + K2) x0 x1 x2 x3 y0 y1 y2 y3 = _ := h2 _ (by omega)
  refine ⟨K1 + K2, ?_⟩
  unfold syzygylaw08_MonoTells.f
  have b4 : ∀ a b c d : Int, (a == a && (b == b && (c == c && (d == d)))) = true := fun a b c d => by simp
  rw [h1, some_bind, show syzygyref08_Mul.f x0 x1 x2 x3 y0 y1 y2 y3 = some (syzygyref08_Mul.v x0 x1 x2 x3 y0 y1 y2 y3) from rfl, some_bind, h2, some_bind,
    show syzygyref08_Div.f x0 x1 x2 x3 y0 y1 y2 y3 = some (syzygyref08_Div.v x0 x1 x2 x3 y0 y1 y2 y3) from rfl, some_bind,
    show mono_May.f x0 x1 x2 x3 = some (mays x0 x1 x2 x3) from rfl, some_bind, show syzygyref08_May.f x0 x1 x2 x3 = some (mays x0 x1 x2 x3) from congrArg some (may_r x0 x1 x2 x3), some_bind, if_pos (beq_self_eq_true _),
    show mono_Degree.f x0 x1 x2 x3 = some (degv x0 x1 x2 x3) from rfl, some_bind, show syzygyref08_Degree.f x0 x1 x2 x3 = some (degv x0 x1 x2 x3) from congrArg some (degree_r x0 x1 x2 x3), some_bind, if_pos rfl,
    if_pos (b4 _ _ _ _), if_pos rfl, if_pos (b4 _ _ _ _), if_pos (beq_self_eq_true _), lcm_r, some_bind,
    show syzygyref08_Lcm.f x0 x1 x2 x3 y0 y1 y2 y3 = some (syzygyref08_Lcm.v x0 x1 x2 x3 y0 y1 y2 y3) from rfl, some_bind, if_pos (b4 _ _ _ _), cop_r, some_bind,
    show syzygyref08_Coprime.f x0 x1 x2 x3 y0 y1 y2 y3 = some (syzygyref08_Coprime.v x0 x1 x2 x3 y0 y1 y2 y3) from rfl, some_bind, if_pos (beq_self_eq_true _), cmp_r, some_bind,
    show syzygyref08_Cmp.f o x0 x1 x2 x3 y0 y1 y2 y3 = some (syzygyref08_Cmp.v o x0 x1 x2 x3 y0 y1 y2 y3) from rfl, some_bind, if_pos rfl, mshown]
  rfl
end Go.Proofs.Ytmknpclfanblfaa.Pure
