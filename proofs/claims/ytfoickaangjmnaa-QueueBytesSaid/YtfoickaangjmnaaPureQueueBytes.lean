/- QueueBytes: the bytes of any pairs, and which pairs any bytes are, are the document's, or its error; what was put is got. -/
import Derived.Test.YtfoickaangjmnaaOQueueBytesL
set_option linter.unusedVariables false
set_option linter.unusedSimpArgs false
namespace Go.Proofs.Ytfoickaangjmnaa.Pure
open Go.RowKit Go.Proofs.Ytfoickaangjmnaa.POQueueBytes Go.Proofs.Ytfoickaangjmnaa.EOQueueBytes Go.Proofs.YtfoickaangjmnaaN Go.Proofs.YtfoickaangjmnaaW.PrintWords Go.Proofs.YtfoickaangjmnaaW.PrintLast
theorem bytes_j1 (l : List S26) (rest : ByteArray) (hl : l.length ≤ 400) (hr : rest.size ≤ 100) : Ev (fun k => syzygylaw15_QueueBytes.j1 k l rest (putv l).1 (putv l).2 false) true := by
  unfold putv
  cases hm : queue_May.go 24 [] l with
  | false =>
    show Ev (fun k => syzygylaw15_QueueBytes.j1 k l rest { data := #[] } 1 false) true
    refine Ev.step (f := fun k => some (({ data := #[] } : ByteArray).toList == ([] : List UInt8))) (fun k => rfl) ?_
    have e : ({ data := #[] } : ByteArray) = strOfNums [] := by decide
    have e2 : ((({ data := #[] } : ByteArray).toList == ([] : List UInt8)) = true) := by
      rw [e, strOf_toList]
      rfl
    rw [e2]
    exact Ev.now true
  | true =>
    have hB : (l.length : Int) < B := by rw [B_eq]; omega
    have hw := wd_le hB
    have hf := may_few hm
    have hz : (strOfNums (putB (l.length : Int) ++ putl l)).size ≤ 1000 := by rw [size_str, List.length_append, putB_len, putl_length]; omega
    rw [if_pos rfl]
    refine Ev.step (f := fun k => if (strOfNums (putB (l.length : Int) ++ putl l)).size + rest.size ≤ 9223372036854775807 then ((queue_Get.f k (strOfNums (putB (l.length : Int) ++ putl l) ++ rest)).bind fun bt202 => (if bt202.2.2 = 0 then (if bt202.2.1.toList = rest.toList then ((syzygyref13_Same.f k bt202.1 l).bind fun t207 => (some t207)) else (some false)) else (some false))) else none) (fun k => rfl) (Ev.pos (by omega) (Ev.bind (qget_ev _ (by rw [ByteArray.size_append]; omega)) ?_))
    rw [get_put hm rest]
    exact Ev.pos rfl (Ev.pos rfl (Ev.bind (same_self l (by omega)) (Ev.now true)))
theorem QueueBytes : syzygylaw15_QueueBytes.Pure := by
  intro l s rest _ _ _ _
  refine Ev.rounds (g := fun k => syzygylaw15_QueueBytes.f k l s rest) ?_
  have h1 : Ev (fun k => syzygylaw15_QueueBytes.j0 k l s rest true) true := Ev.step (f := fun k => syzygylaw15_shown.f.bind fun t => some t) (fun k => rfl) (Ev.bind_const qshown (Ev.now true))
  unfold syzygylaw15_QueueBytes.f
  by_cases c0 : (l.length : Int) > 400
  · exact Ev.pos c0 h1
  refine Ev.neg c0 ?_
  by_cases c1 : (s.size : Int) > 1000
  · exact Ev.pos c1 h1
  refine Ev.neg c1 ?_
  by_cases c2 : (rest.size : Int) > 100
  · exact Ev.pos c2 h1
  refine Ev.neg c2 (Ev.bind_const qshown ?_)
  have hg := getv_len s
  refine Ev.step (f := fun k => (queue_Put.f k l).bind fun bt187 => ((syzygyref15_Put.f k l).bind fun bt189 => ((queue_Get.f k s).bind fun bt191 => ((syzygyref15_Get.f k s).bind fun bt196 => (if bt187.1.toList = bt189.1.toList then (if bt187.2 = bt189.2 then ((syzygyref13_Same.f k bt191.1 bt196.1).bind fun t201 => (if t201 = true then (if bt191.2.1.toList = bt196.2.1.toList then (syzygylaw15_QueueBytes.j1 k l rest bt187.1 bt187.2 (bt191.2.2 != bt196.2.2)) else (syzygylaw15_QueueBytes.j1 k l rest bt187.1 bt187.2 true)) else (syzygylaw15_QueueBytes.j1 k l rest bt187.1 bt187.2 true))) else (syzygylaw15_QueueBytes.j1 k l rest bt187.1 bt187.2 true)) else (syzygylaw15_QueueBytes.j1 k l rest bt187.1 bt187.2 true)))))) (fun k => rfl) ?_
  refine Ev.bind (qput_ev l (by omega)) (Ev.bind (rput15_ev l (by omega)) (Ev.bind (qget_ev s (by omega)) (Ev.bind (rget15_ev s (by omega)) (Ev.pos rfl (Ev.pos rfl (Ev.bind (same_self _ (by omega)) (Ev.pos rfl (Ev.pos rfl ?_))))))))
  rw [show ((getv s).2.2 != (getv s).2.2) = false by simp]
  exact bytes_j1 l rest (by omega) (by omega)
end Go.Proofs.Ytfoickaangjmnaa.Pure
