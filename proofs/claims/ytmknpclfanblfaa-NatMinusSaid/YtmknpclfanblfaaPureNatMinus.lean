/- NatMinus: what was added is taken back; less than nothing there is not. -/
import Derived.Test.YtmknpclfanblfaaONatMinusNatA
set_option linter.unusedVariables false
set_option linter.unusedSimpArgs false
namespace Go.Proofs.Ytmknpclfanblfaa.Pure
open Go.RowKit Go.Proofs.Ytmknpclfanblfaa.PONatMinus Go.Proofs.Ytmknpclfanblfaa.EONatMinus Go.Proofs.YtmknpclfanblfaaN Go.Proofs.YtmknpclfanblfaaW.PrintWords Go.Proofs.YtmknpclfanblfaaW.PrintLast

theorem minus_shown (l0 l1 : List Int) : Ev (fun k => syzygylaw02_NatMinus.j0 k l0 l1 true) true :=
  Ev.step (fun k => by rw [syzygylaw02_NatMinus.j0]) (Ev.pos rfl (Ev.bind nshown_ev (Ev.now _)))
def took (x y : Int) : List Int × Int := if x < y then ([], 20) else (dg (x - y), 0)
theorem minus_end {l0 l1 : List Int} (h0 : Ok l0) (h1 : Ok l1) (g0 : Held l0) (g1 : Held l1) : Ev (fun k => (nat_Cmp.f k l0 l1).bind fun t188 => (if (((took (val l0) (val l1)).2 == 0) == (decide (t188 ≥ 0))) = true then (if (took (val l0) (val l1)).2 = 0 then (some true) else (if (took (val l0) (val l1)).2 = 20 then (some (((took (val l0) (val l1)).1.length : Int) == 0)) else (some false))) else (some false))) true := by
  refine Ev.bind (ncmp_ev h0 h1 (by have := g0.1; omega) (by have := g1.1; omega)) ?_
  unfold took
  by_cases h : val l0 < val l1
  · have hc : cmpv (val l0) (val l1) = -1 := by unfold cmpv; rw [if_pos h]
    rw [if_pos h, hc]
    exact Ev.now _
  · have hc : 0 ≤ cmpv (val l0) (val l1) := by have := cmpv_neg (x := val l0) (y := val l1); omega
    rw [if_neg h]
    exact Ev.pos (by rw [decide_eq_true hc]; rfl) (Ev.pos rfl (Ev.now _))
theorem minus_core {l0 l1 : List Int} (h0 : Ok l0) (h1 : Ok l1) (g0 : Held l0) (g1 : Held l1) : Ev (fun k => syzygylaw02_NatMinus.j0 k l0 l1 false) true := by
  have v0 := val_nonneg h0
  have v1 := val_nonneg h1
  have ha := nadd_ev h0 h1
  have hs : Ev (fun k => nat_Sub.f k l0 l1) (took (val l0) (val l1)) := by
    have h := nsub_ev h0 h1
    rw [if_pos ⟨g0, g1⟩] at h
    exact h
  rw [if_pos ⟨g0, g1⟩] at ha
  refine Ev.step (fun k => by rw [syzygylaw02_NatMinus.j0]) (Ev.neg (by simp) (Ev.bind ha (Ev.bind hs ?_)))
  by_cases hb : 8 < (dg (val l0 + val l1)).length
  · have e : told (val l0 + val l1) = ([], 21) := if_pos hb
    rw [e]
    exact Ev.neg (by decide) (minus_end h0 h1 g0 g1)
  · have e : told (val l0 + val l1) = (dg (val l0 + val l1), 0) := if_neg hb
    have hh : Held (dg (val l0 + val l1)) := ⟨by omega, dg_last _⟩
    rw [e]
    have hs2 := nsub_ev (ok_dg (val l0 + val l1)) h1
    rw [if_pos ⟨hh, g1⟩, val_dg (by omega), if_neg (by omega), Int.add_sub_cancel, g0.dg h0] at hs2
    refine Ev.pos rfl (Ev.bind hs2 (Ev.pos rfl (Ev.bind (nsameT (Nat.le_trans g0.1 (by decide)) rfl) (Ev.pos rfl (minus_end h0 h1 g0 g1)))))
theorem NatMinus : syzygylaw02_NatMinus.Pure := by
  intro l0 l1 _ _ h0 _ _ h1
  refine Ev.rounds ?_
  unfold syzygylaw02_NatMinus.f
  refine Ev.bind_const (rmay_eq l0) ?_
  by_cases g0 : Held l0
  · refine Ev.pos (decide_eq_true g0) (Ev.bind_const (rmay_eq l1) ?_)
    by_cases g1 : Held l1
    · exact Ev.pos (decide_eq_true g1) (Ev.bind nshown_ev (minus_core (ok_of_wf h0) (ok_of_wf h1) g0 g1))
    · exact Ev.neg (by simpa using g1) (minus_shown ..)
  · exact Ev.neg (by simpa using g0) (minus_shown ..)
end Go.Proofs.Ytmknpclfanblfaa.Pure
