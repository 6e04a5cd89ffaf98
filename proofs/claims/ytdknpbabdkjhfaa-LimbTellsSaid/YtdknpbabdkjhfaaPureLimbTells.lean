/- LimbTells: the functions and their references say the same. -/
import Derived.Test.YtdknpbabdkjhfaaOLimbTellsLimbI
import Derived.Test.YtdknpbabdkjhfaaOLimbTellsLimbC
import Derived.Test.YtdknpbabdkjhfaaOLimbTellsLimbD
set_option linter.unusedVariables false
set_option linter.unusedSimpArgs false
namespace Go.Proofs.Ytdknpbabdkjhfaa.Pure
open Go.RowKit Go.Proofs.Ytdknpbabdkjhfaa.POLimbTells Go.Proofs.Ytdknpbabdkjhfaa.EOLimbTells Go.Proofs.YtdknpbabdkjhfaaN Go.Proofs.YtdknpbabdkjhfaaW.PrintWords Go.Proofs.YtdknpbabdkjhfaaW.PrintLast

theorem tells_core {l0 l1 : List Int} (h0 : Ok l0) (h1 : Ok l1) (n0 : l0.length ≤ 30) (n1 : l1.length ≤ 30) : Ev (fun k => syzygylaw01_LimbTells.j0 k l0 l1 false) true := by
  have r0 := Row.of h0 n0
  have r1 := Row.of h1 n1
  have s := r0.add r1 (p := 31) (by omega) (by omega)
  have m := r0.mul r1 (p := 60) (by omega)
  have hv := val_nonneg h0
  obtain ⟨n, hn, hb⟩ := IsBits.ex (n := 64 * 30) hv (by rw [← Bpow_two]; exact Int.lt_of_lt_of_le (val_lt h0) (Bpow_mono n0))
  have hd : Ev (fun k => syzygyref01_Same.f k (if val l0 < val l1 then (([] : List Int), false) else (dg (val l0 - val l1), true)).1 (if val l0 < val l1 then (([] : List Int), false) else (dg (val l0 - val l1), true)).1) true := by
    by_cases h : val l0 < val l1
    · rw [if_pos h]
      have := sameT (n := 0) (x := 0) (y := 0) (Int.le_refl _) (by decide) (by omega) rfl
      rw [dg_zero] at this
      exact this
    · rw [if_neg h]
      have d := r0.sub r1 (by omega)
      exact sameT d.pos d.lt (by omega) rfl
  refine Ev.step (fun k => by rw [syzygylaw01_LimbTells.j0]) (Ev.neg (by simp) ?_)
  refine Ev.bind (subR r0 r1 (by omega) (by omega)) (Ev.bind (rsub_ev h0 h1 (by omega) (by omega)) (Ev.bind (TrimR r0 (by omega)) (Ev.bind (rtrimR r0 (by omega)) (Ev.bind (sameT (n := 30) hv r0.lt (by omega) rfl) (Ev.pos rfl (Ev.bind (cmpR r0 r1 (by omega) (by omega)) (Ev.bind (rcmp_ev h0 h1 (by omega) (by omega)) (Ev.pos rfl (Ev.bind (bits_ev h0 (by omega) hb) (Ev.bind (rbits_ev h0 (by omega) hb) (Ev.pos rfl (Ev.bind (addR r0 r1 (by omega) (by omega)) (Ev.bind (radd_ev h0 h1 (by omega) (by omega)) (Ev.bind (sameT (n := 31) s.pos s.lt (by omega) rfl) (Ev.pos rfl (Ev.bind hd (Ev.pos rfl (Ev.pos (by simp) (Ev.bind (mulR r0 r1 (by omega) (by omega)) (Ev.bind (rmul_ev h0 h1 (by omega) (by omega)) (Ev.bind (sameT (n := 60) m.pos m.lt (by omega) rfl) (Ev.now _))))))))))))))))))))))
theorem tells_shown (l0 l1 : List Int) : Ev (fun k => syzygylaw01_LimbTells.j0 k l0 l1 true) true :=
  Ev.step (fun k => by rw [syzygylaw01_LimbTells.j0]) (Ev.pos rfl (Ev.bind shown_ev (Ev.now _)))
theorem LimbTells : syzygylaw01_LimbTells.Pure := by
  intro l0 l1 _ _ h0 _ _ h1
  refine Ev.rounds ?_
  unfold syzygylaw01_LimbTells.f
  refine Ev.bind_const (heavy_eq _ _) ?_
  by_cases c1 : 30 < l0.length ∨ 30 < l1.length
  · exact Ev.pos (decide_eq_true c1) (tells_shown ..)
  · refine Ev.neg (by simpa using c1) (Ev.bind shown_ev ?_)
    exact tells_core (ok_of_wf h0) (ok_of_wf h1) (by omega) (by omega)
end Go.Proofs.Ytdknpbabdkjhfaa.Pure
