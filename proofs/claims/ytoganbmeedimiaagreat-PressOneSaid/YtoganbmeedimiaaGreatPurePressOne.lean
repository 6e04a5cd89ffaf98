/- PressOne: what is got of bytes has just those bytes. -/
import Derived.Test.YtoganbmeedimiaaGreatOPressOneL
set_option linter.unusedVariables false
set_option linter.unusedSimpArgs false
namespace Go.Proofs.YtoganbmeedimiaaGreat.Pure
open Go.RowKit Go.Proofs.YtoganbmeedimiaaGreat.POPressOne Go.Proofs.YtoganbmeedimiaaGreat.EOPressOne Go.Proofs.YtoganbmeedimiaaGreatN Go.Proofs.YtoganbmeedimiaaGreatW.PrintWords Go.Proofs.YtoganbmeedimiaaGreatW.PrintLast Go.Proofs.YtoganbmeedimiaaGreatW.PrintMore
theorem PressOne : syzygylaw11_PressOne.Pure := by
  intro o s _ _
  have : Ev (fun k => One.oneL k o s) true := by
    unfold One.oneL
    by_cases h0 : 3000 < (s.size : Int)
    · exact Ev.pos h0 (Ev.now _)
    · refine Ev.neg h0 ?_
      have hg := jJL o (s := s) (by omega)
      cases hn : jHR o s with
      | inl c =>
        rw [hn] at hg
        refine Ev.bind hg ?_
        refine Ev.pos (jKh hn) (Ev.eq (Ev.now _) ?_)
        show ((0 : Int) == 0 && ({ data := #[] } : ByteArray).toList.isEmpty) = true
        rw [show ({ data := #[] } : ByteArray).toList = [] from jFw []]; rfl
      | inr p =>
        obtain ⟨l, t⟩ := p
        obtain ⟨e, h1, h2⟩ := jJJ hn
        have hz := jDY e
        rw [hn] at hg
        refine Ev.bind (a := (l, t, (0 : Int))) hg ?_
        refine Ev.neg (fun q => q rfl) (Ev.bind (jJD h1 h2) ?_)
        refine Ev.pos rfl ?_
        dsimp only
        rw [← e]
        exact Ev.pos (by omega) (Ev.eq (Ev.now _) (beq_self_eq_true _))
  obtain ⟨K, h⟩ := this
  exact ⟨K, h K (Nat.le_refl _)⟩
end Go.Proofs.YtoganbmeedimiaaGreat.Pure
