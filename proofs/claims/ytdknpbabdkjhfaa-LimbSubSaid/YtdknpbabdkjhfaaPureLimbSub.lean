/- LimbSub: of two rows just the greater one takes off the other one; what is left, and the lesser one, is the greater one. -/
import Derived.Test.YtdknpbabdkjhfaaOLimbSubLimbR
set_option linter.unusedVariables false
set_option linter.unusedSimpArgs false
namespace Go.Proofs.Ytdknpbabdkjhfaa.Pure
open Go.RowKit Go.Proofs.Ytdknpbabdkjhfaa.POLimbSub Go.Proofs.Ytdknpbabdkjhfaa.EOLimbSub Go.Proofs.YtdknpbabdkjhfaaN Go.Proofs.YtdknpbabdkjhfaaW.PrintWords Go.Proofs.YtdknpbabdkjhfaaW.PrintLast

theorem sub_core {l0 l1 : List Int} (h0 : Ok l0) (h1 : Ok l1) (n0 : l0.length ≤ 30) (n1 : l1.length ≤ 30) : Ev (fun k => syzygylaw01_LimbSub.j0 k l0 l1 false) true := by
  have r0 := Row.of h0 n0
  have r1 := Row.of h1 n1
  have p0 := r0.pos
  have p1 := r1.pos
  refine Ev.step (fun k => by rw [syzygylaw01_LimbSub.j0]) (Ev.neg (by simp) ?_)
  rcases Int.lt_trichotomy (val l0) (val l1) with h | h | h
  · have d := r1.sub r0 (by omega)
    have hc : cmpv (val l0) (val l1) = -1 := by unfold cmpv; rw [if_pos h]
    refine Ev.bind (subR_no r0 r1 (by omega) (by omega) h) (Ev.bind (subR_yes r1 r0 (by omega) (by omega) (by omega)) (Ev.bind (cmpR r0 r1 (by omega) (by omega)) ?_))
    rw [hc]
    refine Ev.neg (by simp) ?_
    refine Ev.step (fun k => by rw [syzygylaw01_LimbSub.j1]) ?_
    refine Ev.neg (by simp) ?_
    refine Ev.neg (by simp) ?_
    refine Ev.step (fun k => by rw [syzygylaw01_LimbSub.j2]) ?_
    refine Ev.neg (by simp) ?_
    refine Ev.neg (by simp) ?_
    refine Ev.pos rfl ?_
    exact Ev.bind (addR d r0 (by omega) (by omega)) (Ev.bind (rtrimR r1 (by omega)) (Ev.bind (sameT (n := 31) (by omega) (d.add r0 (p := 31) (by omega) (by omega)).lt (by omega) (by omega)) (Ev.now _)))
  · have hc : cmpv (val l0) (val l1) = 0 := by rw [h, cmpv_self]
    have hz : val l0 - val l1 = 0 := by omega
    have hz' : val l1 - val l0 = 0 := by omega
    refine Ev.bind (subR_yes r0 r1 (by omega) (by omega) (by omega)) (Ev.bind (subR_yes r1 r0 (by omega) (by omega) (by omega)) (Ev.bind (cmpR r0 r1 (by omega) (by omega)) ?_))
    rw [hc, hz, hz', dg_zero]
    refine Ev.neg (by simp) ?_
    refine Ev.step (fun k => by rw [syzygylaw01_LimbSub.j1]) ?_
    refine Ev.neg (by simp) ?_
    refine Ev.pos rfl ?_
    refine Ev.step (fun k => by rw [syzygylaw01_LimbSub.j2]) ?_
    refine Ev.pos rfl ?_
    refine Ev.pos rfl ?_
    exact Ev.const rfl
  · have d := r0.sub r1 (by omega)
    have hc : cmpv (val l0) (val l1) = 1 := by unfold cmpv; rw [if_neg (by omega), if_neg (by omega)]
    refine Ev.bind (subR_yes r0 r1 (by omega) (by omega) (by omega)) (Ev.bind (subR_no r1 r0 (by omega) (by omega) h) (Ev.bind (cmpR r0 r1 (by omega) (by omega)) ?_))
    rw [hc]
    refine Ev.neg (by simp) ?_
    refine Ev.step (fun k => by rw [syzygylaw01_LimbSub.j1]) ?_
    refine Ev.neg (by simp) ?_
    refine Ev.pos rfl ?_
    refine Ev.step (fun k => by rw [syzygylaw01_LimbSub.j2]) ?_
    refine Ev.neg (by simp) ?_
    refine Ev.pos rfl ?_
    refine Ev.pos rfl ?_
    exact Ev.bind (addR d r1 (by omega) (by omega)) (Ev.bind (rtrimR r0 (by omega)) (Ev.bind (sameT (n := 31) (by omega) (d.add r1 (p := 31) (by omega) (by omega)).lt (by omega) (by omega)) (Ev.now _)))
theorem sub_shown (l0 l1 : List Int) : Ev (fun k => syzygylaw01_LimbSub.j0 k l0 l1 true) true :=
  Ev.step (fun k => by rw [syzygylaw01_LimbSub.j0]) (Ev.pos rfl (Ev.bind shown_ev (Ev.now _)))
theorem LimbSub : syzygylaw01_LimbSub.Pure := by
  intro l0 l1 _ _ h0 _ _ h1
  refine Ev.rounds ?_
  unfold syzygylaw01_LimbSub.f
  refine Ev.bind_const (heavy_eq _ _) ?_
  by_cases c1 : 30 < l0.length ∨ 30 < l1.length
  · exact Ev.pos (decide_eq_true c1) (sub_shown ..)
  · refine Ev.neg (by simpa using c1) (Ev.bind shown_ev ?_)
    exact sub_core (ok_of_wf h0) (ok_of_wf h1) (by omega) (by omega)
end Go.Proofs.Ytdknpbabdkjhfaa.Pure
