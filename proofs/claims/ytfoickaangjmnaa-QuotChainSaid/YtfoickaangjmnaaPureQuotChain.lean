/- QuotChain: divided by one natural, and then by another one, it is as divided by their product. -/
import Derived.Test.YtfoickaangjmnaaOQuotChainL
set_option linter.unusedVariables false
set_option linter.unusedSimpArgs false
namespace Go.Proofs.Ytfoickaangjmnaa.Pure
open Go.RowKit Go.Proofs.Ytfoickaangjmnaa.POQuotChain Go.Proofs.Ytfoickaangjmnaa.EOQuotChain Go.Proofs.YtfoickaangjmnaaN Go.Proofs.YtfoickaangjmnaaW.PrintWords Go.Proofs.YtfoickaangjmnaaW.PrintLast
theorem chain_shown (b c : Int) (a : List Int) : Ev (fun k => syzygylaw03_QuotChain.j0 k b c a true) true :=
  Ev.step (fun k => by rw [syzygylaw03_QuotChain.j0]) (Ev.pos rfl (Ev.bind qshown_ev (Ev.now _)))
theorem QuotChain : syzygylaw03_QuotChain.Pure := by
  intro l0 b c _ g0 h0 hb hc
  have hb' : 0 ≤ b ∧ b < B := by simp [Lit.wf, IntKind.min, IntKind.max, IntKind.signed, IntKind.bits] at hb; rw [B_eq]; omega
  have hc' : 0 ≤ c ∧ c < B := by simp [Lit.wf, IntKind.min, IntKind.max, IntKind.signed, IntKind.bits] at hc; rw [B_eq]; omega
  obtain ⟨x, x0, x8, hx⟩ := qheld_ev (ok_of_wf h0) (by omega)
  clear g0 h0 hb hc
  refine Ev.rounds ?_
  unfold syzygylaw03_QuotChain.f
  refine Ev.bind hx ?_
  clear hx
  by_cases b0 : b = 0
  · exact Ev.pos b0 (chain_shown ..)
  · refine Ev.neg b0 ?_
    by_cases c0 : c = 0
    · exact Ev.pos c0 (chain_shown ..)
    · refine Ev.neg c0 (Ev.bind qshown_ev (Ev.step (fun k => by rw [syzygylaw03_QuotChain.j0]) (Ev.neg (by simp) ?_)))
      have hs := small_ev (ok_dg x) hb'.1 hb'.2
      unfold smalld at hs
      rw [if_pos (held_of_dg x8), if_neg b0, val_dg x0] at hs
      have q0 := Int.ediv_nonneg x0 hb'.1
      have q8 : x / b < B ^ 8 := by have := Int.ediv_le_self b x0; omega
      have hs2 := small_ev (ok_dg (x / b)) hc'.1 hc'.2
      unfold smalld at hs2
      rw [if_pos (held_of_dg q8), if_neg c0, val_dg q0] at hs2
      have rb : Row [b] b 1 := ⟨Ok.one hb'.1 hb'.2, val_one _, Nat.le_refl _⟩
      have rc : Row [c] c 1 := ⟨Ok.one hc'.1 hc'.2, val_one _, Nat.le_refl _⟩
      have hm := rmul_ev rb.1 rc.1 (by simp) (by simp)
      rw [rb.2.1, rc.2.1] at hm
      have rbc := rb.mul rc (p := 8) (by decide)
      have bcp : 0 < b * c := Int.mul_pos (by omega) (by omega)
      have hd := div_ev (ok_dg x) (ok_dg (b * c))
      rw [divd_dg x0 bcp x8 rbc.lt, ← Int.ediv_ediv_of_nonneg hb'.1] at hd
      have w8 : x / b / c < B ^ 8 := by have := Int.ediv_le_self c q0; omega
      have lw := dg_len w8
      exact Ev.bind hs (Ev.bind hs2 (Ev.bind hm (Ev.bind hd (Ev.pos rfl (Ev.pos rfl (Ev.pos rfl (Ev.bind (nsameT (by simp only; omega) rfl) (Ev.now _))))))))
end Go.Proofs.Ytfoickaangjmnaa.Pure
