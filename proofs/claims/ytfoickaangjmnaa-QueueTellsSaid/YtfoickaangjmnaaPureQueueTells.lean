/- QueueTells: which pairs of any leads may be, which is next, and which there are with one more, is the document's. -/
import Derived.Test.YtfoickaangjmnaaOQueueTellsL
set_option linter.unusedVariables false
set_option linter.unusedSimpArgs false
namespace Go.Proofs.Ytfoickaangjmnaa.Pure
open Go.RowKit Go.Proofs.Ytfoickaangjmnaa.POQueueTells Go.Proofs.Ytfoickaangjmnaa.EOQueueTells Go.Proofs.YtfoickaangjmnaaN Go.Proofs.YtfoickaangjmnaaW.PrintWords Go.Proofs.YtfoickaangjmnaaW.PrintLast
theorem tells_j (o n : Int) (ls : List S36) (l : List S26) (hl : l.length ≤ 400) : ∀ b : Bool, Ev (fun k => syzygylaw15_QueueTells.j0 k o n ls l b) true
  | true => Ev.step (f := fun k => syzygylaw15_shown.f.bind fun t => some t) (fun k => rfl) (Ev.bind_const qshown (Ev.now true))
  | false => by
    have hw : (withv n l).length < 4398046511104 := by
      unfold withv
      split
      · have hb : mx n 0 ≤ 24 := by unfold mx; split <;> omega
        rw [List.length_append, List.length_map, List.length_range']
        omega
      · omega
    have hn : (nextv o ls l).2.2.1.length < 4398046511104 := by
      unfold nextv
      split
      · decide
      · have := List.length_eraseIdx_le l (ixp l (bestp o ls l))
        show (l.eraseIdx (ixp l (bestp o ls l))).length < _
        omega
    refine Ev.step (f := fun k => (queue_Next.f o ls l).bind fun bt195 => ((syzygyref15_Next.f k o ls l).bind fun bt202 => ((queue_May.f n l).bind fun t209 => ((syzygyref15_May.f k n l).bind fun t210 => (if (t209 == t210) = true then ((queue_With.f k n l).bind fun t211 => ((syzygyref15_With.f k n l).bind fun t214 => ((syzygyref13_Same.f k t211 t214).bind fun t217 => (if t217 = true then (if (bt195.1 == bt202.1 && (bt195.2.1 == bt202.2.1)) = true then ((syzygyref13_Same.f k bt195.2.2.1 bt202.2.2.1).bind fun t218 => (if t218 = true then (some (bt195.2.2.2 == bt202.2.2.2)) else (some false))) else (some false)) else (some false))))) else (some false)))))) (fun k => rfl) ?_
    refine Ev.bind_const (next_q o ls l (by omega)) (Ev.bind (next_ev o ls l (by omega)) (Ev.bind_const (a := queue_May.go n [] l) (by unfold queue_May.f; rw [if_pos (by omega)]) (Ev.bind (may_ev n l (by omega)) (Ev.pos (by simp) (Ev.bind (with_ev n l (by omega)) (Ev.bind (withr_ev n l (by omega)) (Ev.bind (same_self _ hw) (Ev.pos rfl (Ev.pos (by simp) (Ev.bind (same_self _ hn) (Ev.pos rfl ?_)))))))))))
    rw [beq_self_eq_true]
    exact Ev.now true
theorem QueueTells : syzygylaw15_QueueTells.Pure := by
  intro o n ls l _ _ _ _ _ _
  refine Ev.rounds (g := fun k => syzygylaw15_QueueTells.f k o n ls l) ?_
  have h1 := Ev.step (f := fun k => syzygylaw15_shown.f.bind fun t => some t) (g := fun k => syzygylaw15_QueueTells.j0 k o n ls l true) (fun k => rfl) (Ev.bind_const qshown (Ev.now true))
  unfold syzygylaw15_QueueTells.f
  by_cases c0 : (ls.length : Int) > 40
  · exact Ev.pos c0 h1
  · refine Ev.neg c0 ?_
    by_cases c1 : (l.length : Int) > 400
    · exact Ev.pos c1 h1
    · exact Ev.neg c1 (Ev.bind_const qshown (tells_j o n ls l (by omega) _))
end Go.Proofs.Ytfoickaangjmnaa.Pure
