/- NatSums: a power of a sum of exponents is the product of both powers, as long as there is room. -/
import Derived.Test.YtmknpclfanblfaaONatSumsNatB
set_option linter.unusedVariables false
set_option linter.unusedSimpArgs false
namespace Go.Proofs.Ytmknpclfanblfaa.Pure
open Go.RowKit Go.Proofs.Ytmknpclfanblfaa.PONatSums Go.Proofs.Ytmknpclfanblfaa.EONatSums Go.Proofs.YtmknpclfanblfaaN Go.Proofs.YtmknpclfanblfaaW.PrintWords Go.Proofs.YtmknpclfanblfaaW.PrintLast
theorem sums_core {v : Int} (hv : 0 ≤ v) (n m : Nat) : Ev (fun k => syzygylaw02_NatSums.j0 k (told (v ^ (n + m))).1 (told (v ^ (n + m))).2 (told (v ^ n)).1 (told (v ^ n)).2 (told (v ^ m)).1 (told (v ^ m)).2 false) true := by
  have big : ∀ p : Nat, p ≤ n + m → ¬ v ^ p < B ^ 8 → (told (v ^ (n + m))).2 = 21 := by
    intro p hp hb
    have hv1 : 1 ≤ v := by
      rcases Int.lt_or_le 0 v with q | q
      · exact q
      · have e : v = 0 := by omega
        cases p with
        | zero => exact absurd (by rw [Int.pow_zero]; decide) hb
        | succ p => exact absurd (by rw [e, Int.zero_pow (by omega)]; decide) hb
    have := pow_mono_right hv1 hp
    rw [told_no (by omega)]
  refine Ev.step (fun k => by rw [syzygylaw02_NatSums.j0]) (Ev.neg (by simp) ?_)
  by_cases h1 : v ^ n < B ^ 8
  · refine Ev.pos (by rw [told_of h1]) (Ev.step (fun k => by rw [syzygylaw02_NatSums.j1]) ?_)
    by_cases h2 : v ^ m < B ^ 8
    · have hm := nmul_ev (ok_dg (v ^ n)) (ok_dg (v ^ m))
      rw [if_pos ⟨held_of_dg h1, held_of_dg h2⟩, val_dg (Int.pow_nonneg hv), val_dg (Int.pow_nonneg hv), ← Int.pow_add] at hm
      rw [told_of h1, told_of h2]
      exact Ev.neg (by simp) (Ev.bind hm (Ev.pos rfl (Ev.bind (nsameT (Nat.le_trans (told_held _).1 (by decide)) rfl) (Ev.now _))))
    · rw [told_no h2]
      exact Ev.pos (by decide) (Ev.const (by rw [big m (by omega) h2]; rfl))
  · refine Ev.neg (by rw [told_no h1]; decide) (Ev.step (fun k => by rw [syzygylaw02_NatSums.j1]) (Ev.pos rfl (Ev.const (by rw [big n (by omega) h1]; rfl))))
theorem NatSums : syzygylaw02_NatSums.Pure := by
  intro a n m ha hn hm
  have ha' : 0 ≤ a ∧ a < 4294967296 := by simp [Lit.wf, IntKind.min, IntKind.max, IntKind.signed, IntKind.bits] at ha; omega
  have hn' : 0 ≤ n ∧ n < 256 := by simp [Lit.wf, IntKind.min, IntKind.max, IntKind.signed, IntKind.bits] at hn; omega
  have hm' : 0 ≤ m ∧ m < 256 := by simp [Lit.wf, IntKind.min, IntKind.max, IntKind.signed, IntKind.bits] at hm; omega
  clear ha hn hm
  have oa : 0 ≤ a ∧ a < B := ⟨ha'.1, by rw [B_eq]; omega⟩
  obtain ⟨n, rfl⟩ := Int.eq_ofNat_of_zero_le hn'.1
  obtain ⟨m, rfl⟩ := Int.eq_ofNat_of_zero_le hm'.1
  have e1 : wrap64 (n : Int) = (n : Int) := by unfold wrap64; omega
  have e2 : wrap64 (m : Int) = (m : Int) := by unfold wrap64; omega
  have e3 : wrap64 ((n : Int) + (m : Int)) = ((n + m : Nat) : Int) := by unfold wrap64; omega
  have ga : Held (dg a) := held_of_dg (by have := B8; omega)
  have pw : ∀ p : Nat, p < 1000 → Ev (fun k => nat_Power.f k (dg a) (p : Int)) (told (a ^ p)) := by
    intro p hp
    have h := npower_ev (ok_dg a) (n := (p : Int)) (by omega)
    rw [if_pos ⟨ga, by omega⟩, val_dg oa.1, Int.toNat_natCast] at h
    exact h
  refine Ev.rounds ?_
  unfold syzygylaw02_NatSums.f
  rw [u64w oa, e1, e2, e3]
  refine Ev.bind_const (of_eq oa) (Ev.bind (pw _ (by omega)) (Ev.bind_const (of_eq oa) (Ev.bind (pw _ (by omega)) (Ev.bind_const (of_eq oa) (Ev.bind (pw _ (by omega)) (Ev.bind nshown_ev (Ev.pos rfl ?_)))))))
  have core := sums_core oa.1 n m
  by_cases h : (told (a ^ (n + m))).2 = 0
  · exact Ev.pos h core
  · refine Ev.neg h ?_
    have e : (told (a ^ (n + m))).2 = 21 := by
      rw [told_err] at h ⊢
      by_cases q : 8 < (dg (a ^ (n + m))).length
      · rw [if_pos q]
      · rw [if_neg q] at h; exact absurd rfl h
    have e' : ((told (a ^ (n + m))).2 != 21) = false := by rw [e]; rfl
    rw [e']
    exact core
end Go.Proofs.Ytmknpclfanblfaa.Pure
