/- LimbBack: what was added to a row is taken back; sums of rows go in whatever order. -/
import Derived.Test.YtdknpbabdkjhfaaOLimbBackLimbR
set_option linter.unusedVariables false
set_option linter.unusedSimpArgs false
namespace Go.Proofs.Ytdknpbabdkjhfaa.Pure
open Go.RowKit Go.Proofs.Ytdknpbabdkjhfaa.POLimbBack Go.Proofs.Ytdknpbabdkjhfaa.EOLimbBack Go.Proofs.YtdknpbabdkjhfaaN Go.Proofs.YtdknpbabdkjhfaaW.PrintWords Go.Proofs.YtdknpbabdkjhfaaW.PrintLast

theorem back_core {l0 l1 l2 : List Int} (h0 : Ok l0) (h1 : Ok l1) (h2 : Ok l2) (n0 : l0.length ≤ 30) (n1 : l1.length ≤ 30) (n2 : l2.length ≤ 30) : Ev (fun k => syzygylaw01_LimbBack.j0 k l0 l1 l2 false) true := by
  have r0 := Row.of h0 n0
  have r1 := Row.of h1 n1
  have r2 := Row.of h2 n2
  have s := r0.add r1 (p := 31) (by omega) (by omega)
  have s2 := r1.add r2 (p := 31) (by omega) (by omega)
  have s3 := s.add r2 (p := 32) (by omega) (by omega)
  have p0 := r0.pos
  have p1 := r1.pos
  refine Ev.step (fun k => by rw [syzygylaw01_LimbBack.j0]) (Ev.neg (by simp) ?_)
  refine Ev.bind (addR r0 r1 (by omega) (by omega)) (Ev.bind (subR_yes s r1 (by omega) (by omega) (by omega)) (Ev.pos rfl (Ev.bind (rtrimR r0 (by omega)) (Ev.bind (sameT (n := 31) (by omega) (s.sub r1 (by omega)).lt (by omega) (by omega)) (Ev.pos rfl
    (Ev.bind (addR r1 r0 (by omega) (by omega)) (Ev.bind (sameT (n := 31) s.pos s.lt (by omega) (by omega)) (Ev.pos rfl
    (Ev.bind (addR s r2 (by omega) (by omega)) (Ev.bind (addR r1 r2 (by omega) (by omega)) (Ev.bind (addR r0 s2 (by omega) (by omega)) (Ev.bind (sameT (n := 32) s3.pos s3.lt (by omega) (by omega)) (Ev.now _)))))))))))))
theorem back_shown (l0 l1 l2 : List Int) : Ev (fun k => syzygylaw01_LimbBack.j0 k l0 l1 l2 true) true :=
  Ev.step (fun k => by rw [syzygylaw01_LimbBack.j0]) (Ev.pos rfl (Ev.bind shown_ev (Ev.now _)))
theorem LimbBack : syzygylaw01_LimbBack.Pure := by
  intro l0 l1 l2 _ _ h0 _ _ h1 _ _ h2
  refine Ev.rounds ?_
  unfold syzygylaw01_LimbBack.f
  refine Ev.bind_const (heavy_eq _ _) ?_
  by_cases c1 : 30 < l0.length ∨ 30 < l1.length
  · exact Ev.pos (decide_eq_true c1) (back_shown ..)
  · refine Ev.neg (by simpa using c1) (Ev.bind_const (heavy_eq _ _) ?_)
    by_cases c2 : 30 < l2.length ∨ 30 < l2.length
    · exact Ev.pos (decide_eq_true c2) (back_shown ..)
    · refine Ev.neg (by simpa using c2) (Ev.bind shown_ev ?_)
      exact back_core (ok_of_wf h0) (ok_of_wf h1) (ok_of_wf h2) (by omega) (by omega) (by omega)
end Go.Proofs.Ytdknpbabdkjhfaa.Pure
