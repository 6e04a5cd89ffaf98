/- LimbPowers: a shift there and back again, and the number of bits it adds. -/
import Derived.Test.YtdknpbabdkjhfaaOLimbPowersLimbE
import Derived.Test.YtdknpbabdkjhfaaOLimbPowersLimbI
set_option linter.unusedVariables false
set_option linter.unusedSimpArgs false
namespace Go.Proofs.Ytdknpbabdkjhfaa.Pure
open Go.RowKit Go.Proofs.Ytdknpbabdkjhfaa.POLimbPowers Go.Proofs.Ytdknpbabdkjhfaa.EOLimbPowers Go.Proofs.YtdknpbabdkjhfaaN Go.Proofs.YtdknpbabdkjhfaaW.PrintWords Go.Proofs.YtdknpbabdkjhfaaW.PrintLast

theorem shift_lt {v : Int} (hv : 0 ≤ v) (hl : v < B ^ 30) {m : Nat} (hm : m ≤ 1000) : 0 ≤ v * 2 ^ m ∧ v * 2 ^ m < B ^ 46 := by
  have hp := two_pos m
  refine ⟨Int.mul_nonneg hv (Int.le_of_lt hp), ?_⟩
  have h2 : (2 : Int) ^ m ≤ B ^ 16 := by
    rw [Bpow_two]
    exact two_mono (by omega)
  rw [show 46 = 30 + 16 from rfl, Int.pow_add]
  have h4 : v * 2 ^ m ≤ v * B ^ 16 := Int.mul_le_mul_of_nonneg_left h2 hv
  have h5 : v * B ^ 16 < B ^ 30 * B ^ 16 := Int.mul_lt_mul_of_pos_right hl (Bpow_pos 16)
  exact Int.lt_of_le_of_lt h4 h5
theorem powers_back {l0 : List Int} {p : Nat} (h0 : Ok l0) (n0 : l0.length ≤ 30) (hp : p ≤ 1000) {n : Nat} (hn : IsBits (val l0 * 2 ^ p) n) : Ev (fun k => syzygylaw01_LimbPowers.j1 k l0 p (dg (val l0 * 2 ^ p)) n) true := by
  have hv := val_nonneg h0
  have hl : val l0 < B ^ 30 := Int.lt_of_lt_of_le (val_lt h0) (Bpow_mono n0)
  have hs := shift_lt hv hl hp
  have hlen : (dg (val l0 * 2 ^ p)).length ≤ 46 := dg_len hs.2
  have hvd := val_dg hs.1
  have hback : Ev (fun k => limb_Shift.f k (dg (val l0 * 2 ^ p)) (wrap64 (-(p : Int)))) (dg (val l0)) := by
    rw [w64 (by omega)]
    by_cases hz : p = 0
    · subst hz
      refine Ev.eq (shift_pos (ok_dg _) (by omega) (by omega)) ?_
      rw [hvd]
      simp
    · refine Ev.eq (shift_neg (ok_dg _) (by omega) (by omega)) ?_
      rw [hvd, show (- -(p : Int)).toNat = p from by omega, Int.mul_ediv_cancel _ (Int.ne_of_gt (two_pos p))]
  rw [← hvd] at hn
  refine Ev.step (fun k => by rw [syzygylaw01_LimbPowers.j1]) (Ev.bind hback (Ev.bind (rtrim_ev h0 (by omega)) (Ev.bind (sameT (n := 30) hv hl (by omega) rfl) (Ev.pos rfl (Ev.bind (bits_ev (ok_dg _) (by omega) hn) (Ev.eq (Ev.now ((n : Int) == (n : Int))) ?_))))))
  simp
theorem powers_core {l0 : List Int} {a : Int} (h0 : Ok l0) (n0 : l0.length ≤ 30) (ha : 0 ≤ a ∧ a ≤ 65535) : Ev (fun k => syzygylaw01_LimbPowers.j0 k l0 a false) true := by
  have hv := val_nonneg h0
  have hp : Int.tmod (wrap64 a) 1001 = ((a.toNat % 1001 : Nat) : Int) := by rw [w64 (by omega), Int.tmod_eq_emod_of_nonneg ha.1]; omega
  have hp2 : a.toNat % 1001 ≤ 1000 := by omega
  refine Ev.step (fun k => by rw [syzygylaw01_LimbPowers.j0]) (Ev.neg (by simp) ?_)
  rw [hp]
  generalize a.toNat % 1001 = p at *
  have hs : Ev (fun k => limb_Shift.f k l0 (p : Int)) (dg (val l0 * 2 ^ p)) := by
    refine Ev.eq (shift_pos h0 (by omega) (by omega)) ?_
    rw [Int.toNat_natCast, Nat.min_eq_left hp2]
  obtain ⟨n, hn, hb⟩ := IsBits.ex (n := 64 * 30) hv (by rw [← Bpow_two]; exact Int.lt_of_lt_of_le (val_lt h0) (Bpow_mono n0))
  refine Ev.bind hs (Ev.bind (bits_ev h0 (by omega) hb) ?_)
  cases n with
  | zero =>
    have hz := hb.zero
    refine Ev.neg (by decide) (powers_back h0 n0 hp2 (n := 0) ?_)
    rw [hz]
    exact .inl ⟨by simp, rfl⟩
  | succ n =>
    have e : wrap64 (((n + 1 : Nat) : Int) + (p : Int)) = ((n + 1 + p : Nat) : Int) := by rw [w64 (by omega)]; omega
    refine Ev.pos (by omega) ?_
    rw [e]
    exact powers_back h0 n0 hp2 (hb.mul hb.pos p)
theorem powers_shown (l0 : List Int) (n : Int) : Ev (fun k => syzygylaw01_LimbPowers.j0 k l0 n true) true :=
  Ev.step (fun k => by rw [syzygylaw01_LimbPowers.j0]) (Ev.pos rfl (Ev.bind shown_ev (Ev.now _)))
theorem u16_of_wf {a : Int} (h : (Lit.int .u16 a).wf = true) : 0 ≤ a ∧ a ≤ 65535 := by
  simp [Lit.wf, IntKind.min, IntKind.max, IntKind.signed, IntKind.bits] at h
  omega
theorem LimbPowers : syzygylaw01_LimbPowers.Pure := by
  intro l0 n _ _ h0 hn
  refine Ev.rounds ?_
  unfold syzygylaw01_LimbPowers.f
  refine Ev.bind_const (heavy_eq _ _) ?_
  by_cases c1 : 30 < l0.length ∨ 30 < ([] : List Int).length
  · exact Ev.pos (decide_eq_true c1) (powers_shown ..)
  · refine Ev.neg (by simpa using c1) (Ev.bind shown_ev ?_)
    exact powers_core (ok_of_wf h0) (by omega) (u16_of_wf hn)
end Go.Proofs.Ytdknpbabdkjhfaa.Pure
