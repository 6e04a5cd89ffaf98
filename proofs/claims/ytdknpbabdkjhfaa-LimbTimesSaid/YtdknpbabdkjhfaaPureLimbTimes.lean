/- LimbTimes: products of rows go in whatever order, and part by part over sums. -/
import Derived.Test.YtdknpbabdkjhfaaOLimbTimesLimbR
set_option linter.unusedVariables false
set_option linter.unusedSimpArgs false
namespace Go.Proofs.Ytdknpbabdkjhfaa.Pure
open Go.RowKit Go.Proofs.Ytdknpbabdkjhfaa.POLimbTimes Go.Proofs.Ytdknpbabdkjhfaa.EOLimbTimes Go.Proofs.YtdknpbabdkjhfaaN Go.Proofs.YtdknpbabdkjhfaaW.PrintWords Go.Proofs.YtdknpbabdkjhfaaW.PrintLast

theorem times_core {l0 l1 l2 : List Int} (h0 : Ok l0) (h1 : Ok l1) (h2 : Ok l2) (n0 : l0.length ≤ 30) (n1 : l1.length ≤ 30) (n2 : l2.length ≤ 30) : Ev (fun k => syzygylaw01_LimbTimes.j0 k l0 l1 l2 false) true := by
  have r0 := Row.of h0 n0
  have r1 := Row.of h1 n1
  have r2 := Row.of h2 n2
  have m01 := r0.mul r1 (p := 60) (by omega)
  have m12 := r1.mul r2 (p := 60) (by omega)
  have m02 := r0.mul r2 (p := 60) (by omega)
  have m3 := m01.mul r2 (p := 90) (by omega)
  have s12 := r1.add r2 (p := 31) (by omega) (by omega)
  have d := r0.mul s12 (p := 61) (by omega)
  refine Ev.step (fun k => by rw [syzygylaw01_LimbTimes.j0]) (Ev.neg (by simp) ?_)
  refine Ev.bind (mulR r0 r1 (by omega) (by omega)) (Ev.bind (mulR r1 r0 (by omega) (by omega)) (Ev.bind (sameT (n := 60) m01.pos m01.lt (by omega) (Int.mul_comm _ _)) (Ev.pos rfl
    (Ev.bind (mulR r0 r1 (by omega) (by omega)) (Ev.bind (mulR m01 r2 (by omega) (by omega)) (Ev.bind (mulR r1 r2 (by omega) (by omega)) (Ev.bind (mulR r0 m12 (by omega) (by omega)) (Ev.bind (sameT (n := 90) m3.pos m3.lt (by omega) (Int.mul_assoc _ _ _)) (Ev.pos rfl
    (Ev.bind (addR r1 r2 (by omega) (by omega)) (Ev.bind (mulR r0 s12 (by omega) (by omega)) (Ev.bind (mulR r0 r1 (by omega) (by omega)) (Ev.bind (mulR r0 r2 (by omega) (by omega)) (Ev.bind (addR m01 m02 (by omega) (by omega)) (Ev.bind (sameT (n := 61) d.pos d.lt (by omega) (Int.mul_add _ _ _)) (Ev.now _))))))))))))))))
theorem times_shown (l0 l1 l2 : List Int) : Ev (fun k => syzygylaw01_LimbTimes.j0 k l0 l1 l2 true) true :=
  Ev.step (fun k => by rw [syzygylaw01_LimbTimes.j0]) (Ev.pos rfl (Ev.bind shown_ev (Ev.now _)))
theorem LimbTimes : syzygylaw01_LimbTimes.Pure := by
  intro l0 l1 l2 _ _ h0 _ _ h1 _ _ h2
  refine Ev.rounds ?_
  unfold syzygylaw01_LimbTimes.f
  refine Ev.bind_const (heavy_eq _ _) ?_
  by_cases c1 : 30 < l0.length ∨ 30 < l1.length
  · exact Ev.pos (decide_eq_true c1) (times_shown ..)
  · refine Ev.neg (by simpa using c1) (Ev.bind_const (heavy_eq _ _) ?_)
    by_cases c2 : 30 < l2.length ∨ 30 < l2.length
    · exact Ev.pos (decide_eq_true c2) (times_shown ..)
    · refine Ev.neg (by simpa using c2) (Ev.bind shown_ev ?_)
      exact times_core (ok_of_wf h0) (ok_of_wf h1) (ok_of_wf h2) (by omega) (by omega) (by omega)
end Go.Proofs.Ytdknpbabdkjhfaa.Pure
