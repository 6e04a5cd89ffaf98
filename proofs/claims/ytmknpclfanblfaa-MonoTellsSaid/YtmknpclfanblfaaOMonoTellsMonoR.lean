/- the references' functions on exponents are mono's. -/
import Derived.Test.YtmknpclfanblfaaOMonoTellsMono
set_option linter.unusedVariables false
set_option linter.unusedSimpArgs false
namespace Go.Proofs.Ytmknpclfanblfaa.EOMonoTells
open Go.RowKit Go.Proofs.Ytmknpclfanblfaa.POMonoTells Go.Proofs.YtmknpclfanblfaaN Go.Proofs.YtmknpclfanblfaaW.PrintWords Go.Proofs.YtmknpclfanblfaaW.PrintLast Go.Proofs.YtmknpclfanblfaaW.PrintMore
theorem may_r (x0 x1 x2 x3 : Int) : syzygyref08_May.v x0 x1 x2 x3 = mays x0 x1 x2 x3 := by
  unfold syzygyref08_May.v mays bad
  have e : ∀ n : Int, decide (n > 40) = decide (40 < n) := fun _ => rfl
  rw [e, e, e, e]
  generalize decide (x0 < 0) = a0
  generalize decide (40 < x0) = b0
  generalize decide (x1 < 0) = a1
  generalize decide (40 < x1) = b1
  generalize decide (x2 < 0) = a2
  generalize decide (40 < x2) = b2
  generalize decide (x3 < 0) = a3
  generalize decide (40 < x3) = b3
  revert a0 b0 a1 b1 a2 b2 a3 b3
  decide
theorem in_of {x0 x1 x2 x3 : Int} (h : mays x0 x1 x2 x3 = true) : In4 40 x0 x1 x2 x3 := mays_iff.1 h
theorem degree_r (x0 x1 x2 x3 : Int) : syzygyref08_Degree.v x0 x1 x2 x3 = degv x0 x1 x2 x3 := by
  unfold syzygyref08_Degree.v degv
  rw [may_r]
  cases h : mays x0 x1 x2 x3 with
  | false => rfl
  | true =>
    have := in_of h
    unfold In4 at this
    rw [cond_true, if_pos rfl, w64 (x := x0) (by omega), w64 (x := x0 + x1) (by omega), w64 (x := x0 + x1 + x2) (by omega), w64 (by omega)]
theorem mul_r (x0 x1 x2 x3 y0 y1 y2 y3 : Int) : Ev (fun k => mono_Mul.f k x0 x1 x2 x3 y0 y1 y2 y3) (syzygyref08_Mul.v x0 x1 x2 x3 y0 y1 y2 y3) := by
  unfold mono_Mul.f mono_May.f syzygyref08_Mul.v
  rw [may_r, may_r, may_r]
  cases hx : mays x0 x1 x2 x3 with
  | false =>
    refine Ev.bind_const rfl (Ev.neg (by decide) ?_)
    exact Ev.step (f := fun _ => some (0, 0, 0, 0, 1)) (fun k => by rw [mono_Mul.j0]; first | exact if_pos rfl | rfl) (Ev.now _)
  | true =>
    refine Ev.bind_const rfl (Ev.pos rfl (Ev.bind_const rfl ?_))
    cases hy : mays y0 y1 y2 y3 with
    | false => exact Ev.step (f := fun _ => some (0, 0, 0, 0, 1)) (fun k => by rw [mono_Mul.j0]; first | exact if_pos rfl | rfl) (Ev.now _)
    | true =>
      refine Ev.step (fun k => by rw [mono_Mul.j0]) (Ev.neg (by decide) ?_)
      unfold mono_zipped_58.f mono_May.f
      refine Ev.bind_const rfl (Ev.bind_const rfl ?_)
      simp only
      cases hs : mays (wrap64 (x0 + y0)) (wrap64 (x1 + y1)) (wrap64 (x2 + y2)) (wrap64 (x3 + y3)) with
      | false => exact Ev.neg (by decide) (Ev.now _)
      | true => exact Ev.pos rfl (Ev.now _)
theorem div_r (x0 x1 x2 x3 y0 y1 y2 y3 : Int) : Ev (fun k => mono_Div.f k x0 x1 x2 x3 y0 y1 y2 y3) (syzygyref08_Div.v x0 x1 x2 x3 y0 y1 y2 y3) := by
  unfold syzygyref08_Div.v
  rw [may_r, may_r]
  cases hx : mays x0 x1 x2 x3 with
  | false =>
    unfold mono_Div.f mono_May.f
    rw [hx]
    refine Ev.bind_const rfl (Ev.neg (by decide) ?_)
    exact Ev.step (f := fun _ => some (0, 0, 0, 0, false)) (fun k => by rw [mono_Div.j0]; first | exact if_pos rfl | rfl) (Ev.now _)
  | true =>
    cases hy : mays y0 y1 y2 y3 with
    | false =>
      unfold mono_Div.f mono_May.f
      rw [hx, hy]
      refine Ev.bind_const rfl (Ev.pos rfl (Ev.bind_const rfl ?_))
      exact Ev.step (f := fun _ => some (0, 0, 0, 0, false)) (fun k => by rw [mono_Div.j0]; first | exact if_pos rfl | rfl) (Ev.now _)
    | true =>
      refine Ev.eq (div_ev (in_of hx) (in_of hy)) ?_
      have hx := in_of hx
      have hy := in_of hy
      unfold In4 at hx hy
      rw [cond_true, cond_true, w64 (by omega), w64 (by omega), w64 (by omega), w64 (by omega)]
      unfold divd
      by_cases h0 : x0 < y0
      · rw [if_neg (by omega), decide_eq_true h0]; rfl
      · by_cases h1 : x1 < y1
        · rw [if_neg (by omega), decide_eq_false h0, decide_eq_true h1]; rfl
        · by_cases h2 : x2 < y2
          · rw [if_neg (by omega), decide_eq_false h0, decide_eq_false h1, decide_eq_true h2]; rfl
          · by_cases h3 : x3 < y3
            · rw [if_neg (by omega), decide_eq_false h0, decide_eq_false h1, decide_eq_false h2, decide_eq_true h3]; rfl
            · rw [if_pos (by omega), decide_eq_false h0, decide_eq_false h1, decide_eq_false h2, decide_eq_false h3]; rfl
theorem lcm_r (x0 x1 x2 x3 y0 y1 y2 y3 : Int) : mono_Lcm.f x0 x1 x2 x3 y0 y1 y2 y3 = some (syzygyref08_Lcm.v x0 x1 x2 x3 y0 y1 y2 y3) := by
  unfold mono_Lcm.f mono_May.f syzygyref08_Lcm.v
  rw [may_r, may_r, some_bind]
  cases mays x0 x1 x2 x3 with
  | false => rfl
  | true =>
    rw [if_pos rfl, some_bind]
    cases mays y0 y1 y2 y3 with
    | false => rfl
    | true => rfl
theorem hit_r {x y : Int} (hx : 0 ≤ x) (hy : 0 ≤ y) : (mn x y == 0) = !hit8 x y := by
  unfold mn hit8
  by_cases h0 : x > 0
  · by_cases h1 : y > 0
    · rw [decide_eq_true h0, decide_eq_true h1]; split <;> simp <;> omega
    · rw [decide_eq_true h0, decide_eq_false h1]; split <;> simp <;> omega
  · rw [decide_eq_false h0]; split <;> simp <;> omega
theorem cop_r (x0 x1 x2 x3 y0 y1 y2 y3 : Int) : mono_Coprime.f x0 x1 x2 x3 y0 y1 y2 y3 = some (syzygyref08_Coprime.v x0 x1 x2 x3 y0 y1 y2 y3) := by
  unfold syzygyref08_Coprime.v
  rw [may_r, may_r]
  cases hx : mays x0 x1 x2 x3 with
  | false => unfold mono_Coprime.f mono_May.f; rw [hx]; rfl
  | true =>
    cases hy : mays y0 y1 y2 y3 with
    | false => unfold mono_Coprime.f mono_May.f; rw [hx, hy]; rfl
    | true =>
      rw [cop_eq (in_of hx) (in_of hy)]
      have hx := in_of hx
      have hy := in_of hy
      unfold In4 at hx hy
      rw [hit_r hx.1.1 hy.1.1, hit_r hx.2.1.1 hy.2.1.1, hit_r hx.2.2.1.1 hy.2.2.1.1, hit_r hx.2.2.2.1 hy.2.2.2.1, cond_true, cond_true]
      unfold cop8
      cases hit8 x0 y0 <;> cases hit8 x1 y1 <;> cases hit8 x2 y2 <;> cases hit8 x3 y3 <;> rfl
theorem sgn_r {x y : Int} (h : -2000 ≤ x - y ∧ x - y ≤ 2000) : sgn8 (wrap64 (x - y)) = cmpi x y := by
  rw [w64 (by omega)]
  unfold sgn8 cmpi
  by_cases h0 : x < y
  · rw [if_pos (by omega), if_pos h0]
  · rw [if_neg (by omega), if_neg h0]
    by_cases h1 : y < x
    · rw [if_pos (by omega), if_pos h1]
    · rw [if_neg (by omega), if_neg h1]
theorem step_r {x y r : Int} (h : -2000 ≤ x - y ∧ x - y ≤ 2000) : cond (x != y) (sgn8 (wrap64 (x - y))) r = if cmpi x y = 0 then r else cmpi x y := by
  rw [sgn_r h]
  by_cases e : x = y
  · subst e; simp [cmpi_self]
  · have : cmpi x y ≠ 0 := by rcases cmpi_cases x y with ⟨h, _⟩ | ⟨h, _⟩ | ⟨_, h⟩ <;> omega
    rw [if_neg this, bne_iff_ne.mpr e]; rfl
theorem lex_r {x0 x1 x2 x3 y0 y1 y2 y3 : Int} (hx : In4 40 x0 x1 x2 x3) (hy : In4 40 y0 y1 y2 y3) : syzygyref08_lex.v x0 x1 x2 x3 y0 y1 y2 y3 = lexv x0 x1 x2 x3 y0 y1 y2 y3 := by
  unfold In4 at hx hy
  unfold syzygyref08_lex.v lexv
  rw [step_r (by omega), step_r (by omega), step_r (by omega), step_r (by omega)]
  congr 3
  rcases cmpi_cases x3 y3 with ⟨h, _⟩ | ⟨h, _⟩ | ⟨h, _⟩ <;> rw [h] <;> rfl
theorem rev_r {x0 x1 x2 x3 y0 y1 y2 y3 : Int} (hx : In4 40 x0 x1 x2 x3) (hy : In4 40 y0 y1 y2 y3) : syzygyref08_Cmp.rev x0 x1 x2 x3 y0 y1 y2 y3 = lexv y3 y2 y1 y0 x3 x2 x1 x0 := by
  rw [← lex_r hy.rev hx.rev]
  unfold syzygyref08_Cmp.rev syzygyref08_lex.v
  have e : ∀ a b : Int, (a != b) = (b != a) := fun a b => by rw [Bool.eq_iff_iff, bne_iff_ne, bne_iff_ne]; exact ⟨Ne.symm, Ne.symm⟩
  rw [e x3 y3, e x2 y2, e x1 y1, e x0 y0]
theorem cmp_r (o x0 x1 x2 x3 y0 y1 y2 y3 : Int) : mono_Cmp.f o x0 x1 x2 x3 y0 y1 y2 y3 = some (syzygyref08_Cmp.v o x0 x1 x2 x3 y0 y1 y2 y3) := by
  unfold mono_Cmp.f mcmp syzygyref08_Cmp.v
  rw [may_r, may_r, degree_r, degree_r]
  cases hx : mays x0 x1 x2 x3 with
  | false => rfl
  | true =>
    cases hy : mays y0 y1 y2 y3 with
    | false => rfl
    | true =>
      rw [if_pos ⟨rfl, rfl⟩, cond_true, cond_true, lex_r (in_of hx) (in_of hy), rev_r (in_of hx) (in_of hy)]
      by_cases h0 : o = 0
      · subst h0; rfl
      · rw [if_neg h0]
        have hd : -2000 ≤ degv x0 x1 x2 x3 - degv y0 y1 y2 y3 ∧ degv x0 x1 x2 x3 - degv y0 y1 y2 y3 ≤ 2000 := by
          unfold degv
          rw [if_pos hx, if_pos hy]
          have hx := in_of hx
          have hy := in_of hy
          unfold In4 at hx hy
          omega
        by_cases hr : o < 0 ∨ o > 2
        · rw [if_neg (by omega), if_neg (by omega)]
          rcases hr with hr | hr
          · rw [decide_eq_true hr]; rfl
          · rw [decide_eq_false (by omega : ¬ o < 0), decide_eq_true hr]; rfl
        · rw [decide_eq_false (by omega : ¬ o < 0), decide_eq_false (by omega : ¬ o > 2), cond_false, cond_false, beq_eq_false_iff_ne.mpr h0, cond_false, step_r hd]
          by_cases h1 : o = 1
          · subst h1; rfl
          · obtain rfl : o = 2 := by omega
            rfl
end Go.Proofs.Ytmknpclfanblfaa.EOMonoTells
