/- OctetPuts: the bytes of any number, natural, ratio and text are the document's, or its error. -/
import Derived.Test.YtijgeonhbmgikaaOOctetPutsL
set_option linter.unusedVariables false
set_option linter.unusedSimpArgs false
namespace Go.Proofs.Ytijgeonhbmgikaa.Pure
open Go.RowKit Go.Proofs.Ytijgeonhbmgikaa.POOctetPuts Go.Proofs.Ytijgeonhbmgikaa.EOOctetPuts Go.Proofs.YtijgeonhbmgikaaN Go.Proofs.YtijgeonhbmgikaaW.PrintWords Go.Proofs.YtijgeonhbmgikaaW.PrintLast Go.Proofs.YtijgeonhbmgikaaW.PrintMore
theorem jIO {l : List Int} (h : ∀ x ∈ l, (Lit.int .u64 x).wf = true) : Ok l := fun x hx => jHW (h x hx)
theorem jJa (l : List Int) (n : Bool) (a b : List Int) (s : ByteArray) : zD.f l n a b s = some (decide (20 < l.length ∨ 20 < a.length ∨ 20 < b.length ∨ 1000 < s.size)) := by
  unfold zD.f
  by_cases h1 : 20 < l.length
  · rw [if_pos (by omega), decide_eq_true (.inl h1)]
  · rw [if_neg (by omega)]
    by_cases h2 : 20 < a.length
    · rw [if_pos (by omega), decide_eq_true (.inr (.inl h2))]
    · rw [if_neg (by omega)]
      by_cases h3 : 20 < b.length
      · rw [if_pos (by omega), decide_eq_true (.inr (.inr (.inl h3)))]
      · rw [if_neg (by omega)]
        congr 1
        rw [decide_eq_decide]
        omega
theorem OctetPuts : syzygylaw06_OctetPuts.Pure := by
  intro n l neg a b s hn _ hl hr _
  refine Ev.rounds ?_
  obtain ⟨n0, n1⟩ := jHW hn
  have ol := jIO hl
  have oa := jIO hr.2.1.2
  have ob := jIO hr.2.2.2
  dsimp only at oa ob
  unfold syzygylaw06_OctetPuts.f
  refine Ev.vT (jJa l neg a b s) ?_
  by_cases hh : 20 < l.length ∨ 20 < a.length ∨ 20 < b.length ∨ 1000 < s.size
  · exact Ev.pos (decide_eq_true hh) (Ev.step (fun k => by rw [syzygylaw06_OctetPuts.j0]) (Ev.pos rfl (Ev.bind jDX (Ev.now _))))
  · refine Ev.neg (fun q => hh (of_decide_eq_true q)) (Ev.bind jDX (Ev.step (fun k => by rw [syzygylaw06_OctetPuts.j0]) (Ev.neg (by decide) ?_)))
    have hs : s.size ≤ 1000 := by omega
    refine Ev.bind (jCF l) (Ev.bind (jBP l) (Ev.bind (jIK neg oa ob) (Ev.bind (jGg neg oa ob) (Ev.bind (jFX n0 n1) (Ev.bind (jDs n0 n1) (Ev.pos rfl (Ev.pos rfl (Ev.pos rfl (Ev.pos rfl (Ev.pos rfl (Ev.bind (jIJ hs) (Ev.bind (jGf hs) (Ev.eq (Ev.now _) ?_)))))))))))))
    exact beq_self_eq_true _
end Go.Proofs.Ytijgeonhbmgikaa.Pure
