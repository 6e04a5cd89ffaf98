/- QuotBoth: the greatest that divides both divides both, and what is left has nothing in common; times the least that both divide it is the product of both. -/
import Derived.Test.YtfoickaangjmnaaOQuotBothL
set_option linter.unusedVariables false
set_option linter.unusedSimpArgs false
namespace Go.Proofs.Ytfoickaangjmnaa.Pure
open Go.RowKit Go.Proofs.Ytfoickaangjmnaa.POQuotBoth Go.Proofs.Ytfoickaangjmnaa.EOQuotBoth Go.Proofs.YtfoickaangjmnaaN Go.Proofs.YtfoickaangjmnaaW.PrintWords Go.Proofs.YtfoickaangjmnaaW.PrintLast
theorem QuotBoth : syzygylaw03_QuotBoth.Pure := by
  intro l0 l1 _ g0 h0 _ g1 h1
  obtain ⟨x, x0, x8, hx⟩ := qheld_ev (ok_of_wf h0) (by omega)
  obtain ⟨y, y0, y8, hy⟩ := qheld_ev (ok_of_wf h1) (by omega)
  clear g0 g1 h0 h1
  refine Ev.rounds ?_
  unfold syzygylaw03_QuotBoth.f
  refine Ev.bind hx (Ev.bind hy ?_)
  clear hx hy
  have rx := Row.dg (x := x) (n := 8) x0 x8
  have ry := Row.dg (x := y) (n := 8) y0 y8
  have hg := gcd_ev (ok_dg x) (ok_dg y)
  unfold gcdd at hg
  rw [if_pos ⟨held_of_dg x8, held_of_dg y8⟩, val_dg x0, val_dg y0] at hg
  have g8 := gcdv_le x0 y0 x8 y8
  have g0 := gcdv_nonneg x y
  refine Ev.bind hg (Ev.pos rfl (Ev.bind qshown_ev ?_))
  refine Ev.step (fun k => by rw [syzygylaw03_QuotBoth.j0]) (Ev.neg (by simp) ?_)
  have hsum : (x = 0 ∨ y = 0) → gcdv x y = x + y := by
    rintro (h | h)
    · subst h
      by_cases hz : y = 0
      · subst hz; rfl
      · have := gcdv_rec (x := 0) (y := y) (Int.le_refl _) (by omega)
        rw [Int.zero_emod, gcdv_zero y0] at this
        omega
    · subst h; rw [gcdv_zero x0]; omega
  have hend : (x = 0 ∨ y = 0) → Ev (fun k => syzygylaw03_QuotBoth.j1 k (dg x) (dg y) (dg (gcdv x y)) true) true := by
    intro h
    have ha := radd_ev rx.1 ry.1 (by have := rx.2.2; omega) (by have := ry.2.2; omega)
    rw [rx.2.1, ry.2.1, ← hsum h] at ha
    refine Ev.step (fun k => by rw [syzygylaw03_QuotBoth.j1]) (Ev.pos rfl (Ev.bind ha ?_))
    have lg := dg_len g8
    exact Ev.bind (nsameT (a := dg (gcdv x y)) (by omega) rfl) (Ev.now _)
  by_cases hx : x = 0
  · exact Ev.pos ((dg_len0 x0).2 hx) (hend (.inl hx))
  · refine Ev.neg (fun h => hx ((dg_len0 x0).1 h)) ?_
    by_cases hy : y = 0
    · have e : (((dg y).length : Int) == 0) = true := beq_iff_eq.2 ((dg_len0 y0).2 hy)
      rw [e]
      exact hend (.inr hy)
    · have e : (((dg y).length : Int) == 0) = false := beq_eq_false_iff_ne.2 (fun h => hy ((dg_len0 y0).1 h))
      rw [e]
      have gp := gcdv_pos x0 y0 (.inl hx)
      obtain ⟨d1, d2⟩ := gcdv_dvd x0 y0
      have hp := div_ev (ok_dg x) (ok_dg (gcdv x y))
      rw [divd_dg x0 gp x8 g8, Int.emod_eq_zero_of_dvd d1, dg_zero] at hp
      have hq := div_ev (ok_dg y) (ok_dg (gcdv x y))
      rw [divd_dg y0 gp y8 g8, Int.emod_eq_zero_of_dvd d2, dg_zero] at hq
      obtain ⟨p0, p8⟩ := div_gcd_bd x0 y0 x8
      have q0 := Int.ediv_nonneg y0 g0
      have q8 : y / gcdv x y < B ^ 8 := by have := Int.ediv_le_self (gcdv x y) y0; omega
      have h1 := gcd_ev (ok_dg (x / gcdv x y)) (ok_dg (y / gcdv x y))
      unfold gcdd at h1
      rw [if_pos ⟨held_of_dg p8, held_of_dg q8⟩, val_dg p0, val_dg q0, gcdv_div x0 y0 (.inl hx), dg_one (x := 1) (by decide) (by decide)] at h1
      have hl := lcm_ev (ok_dg x) (ok_dg y)
      unfold lcmd at hl
      rw [if_pos ⟨held_of_dg x8, held_of_dg y8⟩, val_dg x0, val_dg y0] at hl
      have rp := Row.dg (x := x / gcdv x y) (n := 8) p0 p8
      have rpy := rp.mul ry (p := 16) (Nat.le_refl _)
      have l0 := rpy.pos
      refine Ev.step (fun k => by rw [syzygylaw03_QuotBoth.j1]) (Ev.neg (by simp) (Ev.bind hp (Ev.bind hq (Ev.bind h1 (Ev.bind hl (Ev.pos rfl (Ev.pos rfl (Ev.pos rfl ?_))))))))
      refine Ev.neg (by simp) ?_
      refine Ev.neg (by simp) ?_
      refine Ev.bind (nsameT (by simp) rfl) ?_
      refine Ev.step (fun k => by rw [syzygylaw03_QuotBoth.j2]) (Ev.neg (by simp) ?_)
      unfold told
      by_cases c : 8 < (dg (x / gcdv x y * y)).length
      · rw [if_pos c]
        have hm := rmul_ev rp.1 ry.1 (by have := rp.2.2; omega) (by have := ry.2.2; omega)
        rw [rp.2.1, ry.2.1] at hm
        refine Ev.neg (by decide) (Ev.pos rfl (Ev.bind hm (Ev.eq (Ev.now _) ?_)))
        rw [decide_eq_true_iff]
        omega
      · rw [if_neg c]
        have rg := Row.dg (x := gcdv x y) (n := 8) g0 g8
        have rl := Row.dg (x := x / gcdv x y * y) (n := 8) l0 (len_dg (by omega))
        have hm := rmul_ev rg.1 rl.1 (by have := rg.2.2; omega) (by have := rl.2.2; omega)
        rw [rg.2.1, rl.2.1, ← Int.mul_assoc, Int.mul_ediv_cancel' d1] at hm
        have hm2 := rmul_ev rx.1 ry.1 (by have := rx.2.2; omega) (by have := ry.2.2; omega)
        rw [rx.2.1, ry.2.1] at hm2
        have rxy := rx.mul ry (p := 16) (Nat.le_refl _)
        refine Ev.pos rfl (Ev.bind hm (Ev.bind hm2 (Ev.bind (nsameT (by have := rxy.2.2; omega) rfl) (Ev.now _))))
end Go.Proofs.Ytfoickaangjmnaa.Pure
