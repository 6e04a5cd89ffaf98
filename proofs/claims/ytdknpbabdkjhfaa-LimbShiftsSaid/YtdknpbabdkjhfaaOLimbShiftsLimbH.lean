/- the references' shift -/
import Derived.Test.YtdknpbabdkjhfaaOLimbShiftsLimbD
import Derived.Test.YtdknpbabdkjhfaaOLimbShiftsLimbF
import Derived.Test.YtdknpbabdkjhfaaOLimbShiftsLimbG
set_option linter.unusedVariables false
set_option linter.unusedSimpArgs false
namespace Go.Proofs.Ytdknpbabdkjhfaa.EOLimbShifts
open Go.RowKit Go.Proofs.Ytdknpbabdkjhfaa.POLimbShifts Go.Proofs.YtdknpbabdkjhfaaN Go.Proofs.YtdknpbabdkjhfaaW.PrintWords Go.Proofs.YtdknpbabdkjhfaaW.PrintLast Go.Proofs.YtdknpbabdkjhfaaW.PrintMore
theorem rshift_down (n : Int) : ∀ (d : Nat) (v : Int) (i : Int), (i - n).toNat = d → n ≤ i → -100000 ≤ n → i ≤ 0 → 0 ≤ v → (dg v).length ≤ 4294967296 → Ev (fun k => syzygyref01_Shift.l0 k n (dg v) i) (dg (v / 2 ^ d)) := by
  intro d
  induction d with
  | zero =>
    intro v i hd hi hn hi0 hv hl
    refine Ev.step (fun k => by simp only [syzygyref01_Shift.l0]; rw [if_neg (by omega)]) (Ev.eq (Ev.now _) ?_)
    simp
  | succ d ih =>
    intro v i hd hi hn hi0 hv hl
    by_cases h0 : v = 0
    · subst h0
      refine Ev.step (fun k => by simp only [syzygyref01_Shift.l0]; rw [if_pos (by omega), if_neg (by rw [dg_zero]; simp)]) (Ev.eq (Ev.now _) ?_)
      simp
    · have hne : dg v ≠ [] := fun e => h0 ((dg_nil_iff hv).1 e)
      have hlen := List.length_pos_iff.2 hne
      have hh := half_ev (ok_dg v) hl
      rw [val_dg hv] at hh
      refine Ev.step (f := fun k => (syzygyref01_half.f k (dg v)).bind fun t => syzygyref01_Shift.l0 k n t (wrap64 (i - 1))) (fun k => by simp only [syzygyref01_Shift.l0]; rw [if_pos (by omega), if_pos (by omega)]) (Ev.bind hh ?_)
      rw [w64 (by omega)]
      have hlt : v / 2 < B ^ (dg v).length := by
        have := len_dg (n := v) (Nat.le_refl _)
        have h2 := Bpow_pos (dg v).length
        omega
      have := ih (v / 2) (i - 1) (by omega) (by omega) hn (by omega) (by omega) (Nat.le_trans (dg_len hlt) hl)
      refine Ev.eq this ?_
      rw [Int.ediv_ediv_of_nonneg (by decide), Int.pow_succ, Int.mul_comm]
theorem rshift_neg {a : List Int} (ha : Ok a) (hal : a.length ≤ 4294967295) {n : Int} (hn : n < 0) (hn2 : -100000 ≤ n) : Ev (fun k => syzygyref01_Shift.f k a n) (dg (val a / 2 ^ (-n).toNat)) := by
  unfold syzygyref01_Shift.f
  refine Ev.neg (by omega) (Ev.bind (rtrim_ev ha (by omega)) ?_)
  have := rshift_down n (-n).toNat (val a) 0 (by omega) (by omega) hn2 (by omega) (val_nonneg ha) (by have := dg_len_val ha; omega)
  exact this
theorem rshift_pos {a : List Int} (ha : Ok a) (hal : a.length ≤ 4294967295) {n : Int} (hn : 0 ≤ n) : Ev (fun k => syzygyref01_Shift.f k a n) (dg (val a * 2 ^ (min n.toNat 1000))) := by
  unfold syzygyref01_Shift.f
  have e : mn n 1000 = ((min n.toNat 1000 : Nat) : Int) := by unfold mn; split <;> omega
  rw [e]
  obtain ⟨p1, p2, p3⟩ := power_row (min n.toNat 1000)
  have h := rmul_ev ha p1 (by omega) (by omega)
  rw [p2] at h
  exact Ev.pos hn (Ev.bind (power_ev _ (by omega)) (Ev.bind h (Ev.now _)))
end Go.Proofs.Ytdknpbabdkjhfaa.EOLimbShifts
