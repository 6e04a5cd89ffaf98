/- OctetGets: what any bytes begin by is the document's, or its error. -/
import Derived.Test.YtijgeonhbmgikaaOOctetGetsL
set_option linter.unusedVariables false
set_option linter.unusedSimpArgs false
namespace Go.Proofs.Ytijgeonhbmgikaa.Pure
open Go.RowKit Go.Proofs.Ytijgeonhbmgikaa.POOctetGets Go.Proofs.Ytijgeonhbmgikaa.EOOctetGets Go.Proofs.YtijgeonhbmgikaaN Go.Proofs.YtijgeonhbmgikaaW.PrintWords Go.Proofs.YtijgeonhbmgikaaW.PrintLast Go.Proofs.YtijgeonhbmgikaaW.PrintMore
theorem jIF (s : ByteArray) : (gotN (natd s)).1.length ≤ 8 := by
  cases h : natd s with
  | inl c => exact Nat.zero_le _
  | inr p => obtain ⟨l, t⟩ := p; exact (jBf h).2.1.1
theorem jFF (s : ByteArray) : (gotR (ratd s)).2.1.length ≤ 8 ∧ (gotR (ratd s)).2.2.1.length ≤ 8 := by
  cases h : ratd s with
  | inl c => exact ⟨Nat.zero_le _, Nat.zero_le _⟩
  | inr p => obtain ⟨n, a, b, t⟩ := p; exact ⟨(jGL h).2.2.1.1, (jGL h).2.2.2.1.1⟩
theorem OctetGets : syzygylaw06_OctetGets.Pure := by
  intro s _
  refine Ev.rounds ?_
  unfold syzygylaw06_OctetGets.f
  by_cases hs : (s.size : Int) > 1000
  · exact Ev.pos hs (Ev.step (fun k => by rw [syzygylaw06_OctetGets.j0]) (Ev.pos rfl (Ev.bind jCy (Ev.now _))))
  · have hz : s.size ≤ 1000000 := by omega
    have q1 := jKL (a := (gotN (natd s)).1) (b := (gotN (natd s)).1) (by have := jIF s; omega) rfl
    have q2 := jKD (n1 := (gotR (ratd s)).1) (n2 := (gotR (ratd s)).1) (jFF s).1 (jFF s).2 ⟨rfl, rfl, rfl⟩
    refine Ev.neg hs (Ev.bind jCy (Ev.step (fun k => by rw [syzygylaw06_OctetGets.j0]) ?_))
    refine Ev.neg (by decide) (Ev.vY (jJK hz) (Ev.bind (jET hz) (Ev.bind (jHz hz) (Ev.bind (jDN hz) (Ev.bind (jHy hz) (Ev.bind (jHj hz) (Ev.vY (jHx hz) (Ev.bind (jHi hz) ?_))))))))
    refine Ev.pos rfl (Ev.pos rfl (Ev.pos rfl (Ev.bind q1 (Ev.pos rfl (Ev.pos rfl (Ev.pos rfl (Ev.bind q2 (Ev.pos rfl (Ev.pos rfl (Ev.pos rfl (Ev.pos rfl (Ev.pos rfl (Ev.eq (Ev.now _) ?_)))))))))))))
    exact beq_self_eq_true _
end Go.Proofs.Ytijgeonhbmgikaa.Pure
