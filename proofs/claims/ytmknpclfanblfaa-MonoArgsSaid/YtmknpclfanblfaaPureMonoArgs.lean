/- MonoArgs: what may not be is refused, and too great a product, too. -/
import Derived.Test.YtmknpclfanblfaaOMonoArgsMono
set_option linter.unusedVariables false
set_option linter.unusedSimpArgs false
namespace Go.Proofs.Ytmknpclfanblfaa.Pure
open Go.RowKit Go.Proofs.Ytmknpclfanblfaa.POMonoArgs Go.Proofs.Ytmknpclfanblfaa.EOMonoArgs Go.Proofs.YtmknpclfanblfaaN Go.Proofs.YtmknpclfanblfaaW.PrintWords Go.Proofs.YtmknpclfanblfaaW.PrintLast
theorem okk4 (x0 x1 x2 x3 y0 y1 y2 y3 : Int) : okk x0 x1 x2 x3 y0 y1 y2 y3 4 = (mays x0 x1 x2 x3 && mays y0 y1 y2 y3) := by
  rw [Bool.eq_iff_iff, Bool.and_eq_true, mays_iff, mays_iff]
  unfold In4
  simp [okk, okp, at9]
  constructor <;> intro h <;> omega
theorem grk4 {x0 x1 x2 x3 y0 y1 y2 y3 : Int} (hx : In4 40 x0 x1 x2 x3) (hy : In4 40 y0 y1 y2 y3) : (In4 40 (x0 + y0) (x1 + y1) (x2 + y2) (x3 + y3) → grk x0 x1 x2 x3 y0 y1 y2 y3 4 = false) ∧ (¬ In4 40 (x0 + y0) (x1 + y1) (x2 + y2) (x3 + y3) → grk x0 x1 x2 x3 y0 y1 y2 y3 4 = true) := by
  unfold In4 at *
  have e0 : wrap64 (x0 + y0) = x0 + y0 := w64 (by omega)
  have e1 : wrap64 (x1 + y1) = x1 + y1 := w64 (by omega)
  have e2 : wrap64 (x2 + y2) = x2 + y2 := w64 (by omega)
  have e3 : wrap64 (x3 + y3) = x3 + y3 := w64 (by omega)
  constructor
  · intro h
    simp [grk, at9, e0, e1, e2, e3]
    omega
  · intro h
    simp [grk, at9, e0, e1, e2, e3]
    omega
theorem mul_no {x0 x1 x2 x3 y0 y1 y2 y3 : Int} (hx : In4 40 x0 x1 x2 x3) (hy : In4 40 y0 y1 y2 y3) (hs : ¬ In4 40 (x0 + y0) (x1 + y1) (x2 + y2) (x3 + y3)) : Ev (fun k => mono_Mul.f k x0 x1 x2 x3 y0 y1 y2 y3) (0, 0, 0, 0, 80) := by
  unfold mono_Mul.f mono_May.f
  refine Ev.bind_const rfl (Ev.pos (hx.mays (Int.le_refl _)) (Ev.bind_const rfl ?_))
  rw [hy.mays (Int.le_refl _)]
  refine Ev.step (fun k => by rw [mono_Mul.j0]) (Ev.neg (by decide) ?_)
  unfold mono_zipped_58.f mono_May.f
  unfold In4 at hx hy
  rw [w64 (by omega), w64 (by omega), w64 (by omega), w64 (by omega)]
  exact Ev.bind_const rfl (Ev.bind_const rfl (Ev.neg (fun h => hs (mays_iff.1 h)) (Ev.now _)))
theorem mul_bad {x0 x1 x2 x3 y0 y1 y2 y3 : Int} (h : ¬ (mays x0 x1 x2 x3 = true ∧ mays y0 y1 y2 y3 = true)) : Ev (fun k => mono_Mul.f k x0 x1 x2 x3 y0 y1 y2 y3) (0, 0, 0, 0, 1) := by
  unfold mono_Mul.f mono_May.f
  by_cases h1 : mays x0 x1 x2 x3 = true
  · have h2 : mays y0 y1 y2 y3 = false := Bool.eq_false_iff.2 (fun q => h ⟨h1, q⟩)
    refine Ev.bind_const rfl (Ev.pos h1 (Ev.bind_const rfl ?_))
    rw [h2]
    refine Ev.step (fun k => by rw [mono_Mul.j0]) ?_
    exact Ev.pos rfl (Ev.now _)
  · refine Ev.bind_const rfl (Ev.neg h1 (Ev.step (fun k => by rw [mono_Mul.j0]) ?_))
    exact Ev.pos rfl (Ev.now _)
theorem div_bad {x0 x1 x2 x3 y0 y1 y2 y3 : Int} (h : ¬ (mays x0 x1 x2 x3 = true ∧ mays y0 y1 y2 y3 = true)) : Ev (fun k => mono_Div.f k x0 x1 x2 x3 y0 y1 y2 y3) (0, 0, 0, 0, false) := by
  unfold mono_Div.f mono_May.f
  by_cases h1 : mays x0 x1 x2 x3 = true
  · have h2 : mays y0 y1 y2 y3 = false := Bool.eq_false_iff.2 (fun q => h ⟨h1, q⟩)
    refine Ev.bind_const rfl (Ev.pos h1 (Ev.bind_const rfl ?_))
    rw [h2]
    refine Ev.step (fun k => by rw [mono_Div.j0]) ?_
    exact Ev.pos rfl (Ev.now _)
  · refine Ev.bind_const rfl (Ev.neg h1 (Ev.step (fun k => by rw [mono_Div.j0]) ?_))
    exact Ev.pos rfl (Ev.now _)
theorem lcm_bad {x0 x1 x2 x3 y0 y1 y2 y3 : Int} (h : ¬ (mays x0 x1 x2 x3 = true ∧ mays y0 y1 y2 y3 = true)) : mono_Lcm.f x0 x1 x2 x3 y0 y1 y2 y3 = some (0, 0, 0, 0) := by
  unfold mono_Lcm.f mono_May.f
  rw [some_bind]
  by_cases h1 : mays x0 x1 x2 x3 = true
  · rw [if_pos h1, some_bind, if_neg (fun q => h ⟨h1, q⟩)]
  · rw [if_neg h1]
theorem cop_bad {x0 x1 x2 x3 y0 y1 y2 y3 : Int} (h : ¬ (mays x0 x1 x2 x3 = true ∧ mays y0 y1 y2 y3 = true)) : mono_Coprime.f x0 x1 x2 x3 y0 y1 y2 y3 = some false := by
  unfold mono_Coprime.f mono_May.f
  rw [some_bind]
  by_cases h1 : mays x0 x1 x2 x3 = true
  · rw [if_pos h1, some_bind, if_neg (fun q => h ⟨h1, q⟩)]
  · rw [if_neg h1]
theorem MonoArgs : syzygylaw08_MonoArgs.Pure := by
  intro a0 x0 x1 x2 x3 y0 y1 y2 y3
  by_cases hm : mays x0 x1 x2 x3 = true ∧ mays y0 y1 y2 y3 = true
  · have hx := mays_iff.1 hm.1
    have hy := mays_iff.1 hm.2
    have ho : okk x0 x1 x2 x3 y0 y1 y2 y3 4 = true := by rw [okk4, hm.1, hm.2]; rfl
    have hg := grk4 hx hy
    obtain ⟨kd, hd⟩ := div_ev hx hy
    by_cases hs : In4 40 (x0 + y0) (x1 + y1) (x2 + y2) (x3 + y3)
    · obtain ⟨km, hmu⟩ := mul_ev hx hy hs
      refine ⟨max km kd, _, _, _, _, 0, (divd x0 x1 x2 x3 y0 y1 y2 y3).1, (divd x0 x1 x2 x3 y0 y1 y2 y3).2.1, (divd x0 x1 x2 x3 y0 y1 y2 y3).2.2.1, (divd x0 x1 x2 x3 y0 y1 y2 y3).2.2.2.1, (divd x0 x1 x2 x3 y0 y1 y2 y3).2.2.2.2, hmu _ (Nat.le_max_left ..), hd _ (Nat.le_max_right ..), mshown, fun _ => ⟨congrArg some hm.1, congrArg some hm.2, ?_, ?_⟩, fun h => ?_⟩
      · rw [hg.1 hs]; rfl
      · rw [hg.1 hs]; rfl
      · rw [ho] at h; cases h
    · obtain ⟨km, hmu⟩ := mul_no hx hy hs
      refine ⟨max km kd, _, _, _, _, 80, (divd x0 x1 x2 x3 y0 y1 y2 y3).1, (divd x0 x1 x2 x3 y0 y1 y2 y3).2.1, (divd x0 x1 x2 x3 y0 y1 y2 y3).2.2.1, (divd x0 x1 x2 x3 y0 y1 y2 y3).2.2.2.1, (divd x0 x1 x2 x3 y0 y1 y2 y3).2.2.2.2, hmu _ (Nat.le_max_left ..), hd _ (Nat.le_max_right ..), mshown, fun _ => ⟨congrArg some hm.1, congrArg some hm.2, ?_, ?_⟩, fun h => ?_⟩
      · rw [hg.2 hs]; rfl
      · rw [hg.2 hs]; rfl
      · rw [ho] at h; cases h
  · obtain ⟨kd, hd⟩ := div_bad hm
    obtain ⟨km, hmu⟩ := mul_bad hm
    refine ⟨max km kd, _, _, _, _, 1, _, _, _, _, false, hmu _ (Nat.le_max_left ..), hd _ (Nat.le_max_right ..), mshown, fun h => ?_, fun _ => ⟨rfl, rfl, lcm_bad hm, cop_bad hm, ?_⟩⟩
    · rw [okk4, Bool.and_eq_true] at h; exact absurd h hm
    · unfold mono_Cmp.f mcmp; rw [if_neg hm]
end Go.Proofs.Ytmknpclfanblfaa.Pure
