/- NatOrder: naturals of one limb are as the limbs are; their sums and products have the room they need. -/
import Derived.Test.YtmknpclfanblfaaONatOrderNatA
set_option linter.unusedVariables false
set_option linter.unusedSimpArgs false
namespace Go.Proofs.Ytmknpclfanblfaa.Pure
open Go.RowKit Go.Proofs.Ytmknpclfanblfaa.PONatOrder Go.Proofs.Ytmknpclfanblfaa.EONatOrder Go.Proofs.YtmknpclfanblfaaN Go.Proofs.YtmknpclfanblfaaW.PrintWords Go.Proofs.YtmknpclfanblfaaW.PrintLast

theorem u64_small {x : Int} (h : 0 ≤ x ∧ x < B) : IntKind.u64.wrap x = x := u64w h
theorem NatOrder : syzygylaw02_NatOrder.Pure := by
  intro a b ha hb
  have ha' : 0 ≤ a ∧ a < 4294967296 := by simp [Lit.wf, IntKind.min, IntKind.max, IntKind.signed, IntKind.bits] at ha; omega
  have hb' : 0 ≤ b ∧ b < 4294967296 := by simp [Lit.wf, IntKind.min, IntKind.max, IntKind.signed, IntKind.bits] at hb; omega
  clear ha hb
  have oa : 0 ≤ a ∧ a < B := ⟨ha'.1, by rw [B_eq]; omega⟩
  have ob : 0 ≤ b ∧ b < B := ⟨hb'.1, by rw [B_eq]; omega⟩
  have os : 0 ≤ a + b ∧ a + b < B := ⟨by omega, by rw [B_eq]; omega⟩
  have hm : a * b ≤ 4294967296 * 4294967295 := Int.le_trans (Int.mul_le_mul_of_nonneg_right (by omega : a ≤ 4294967296) ob.1) (Int.mul_le_mul_of_nonneg_left (by omega) (by omega))
  have om : 0 ≤ a * b ∧ a * b < B := ⟨Int.mul_nonneg oa.1 ob.1, by rw [B_eq]; omega⟩
  have B88 := B8
  have ga : Held (dg a) := held_of_dg (by omega)
  have gb : Held (dg b) := held_of_dg (by omega)
  have la : ∀ {x : Int}, x < B → (dg x).length ≤ 17592186044416 := fun h => Nat.le_trans (dg_len (m := 8) (by omega)) (by decide)
  have core : Ev (fun k => syzygylaw02_NatOrder.j1 k a b (dg a) (dg b) (dg (a + b)) 0 (dg (a * b)) 0 (cmpv a b)) true := by
    refine Ev.step (fun k => by rw [syzygylaw02_NatOrder.j1]) ?_
    rw [u64_small oa, u64_small ob, u64_small os, u64_small om]
    have hc := ncmp_ev (a := dg a) (b := dg b) (ok_dg _) (ok_dg _) (la oa.2) (la ob.2)
    rw [val_dg oa.1, val_dg ob.1] at hc
    exact Ev.bind hc (Ev.pos rfl (Ev.pos rfl (Ev.pos rfl (Ev.bind_const (of_eq os) (Ev.bind (nsameT (la os.2) rfl) (Ev.pos rfl (Ev.bind_const (of_eq om) (Ev.bind (nsameT (la om.2) rfl) (Ev.pos rfl (Ev.bind nshown_ev (Ev.now _)))))))))))
  refine Ev.rounds ?_
  unfold syzygylaw02_NatOrder.f
  rw [u64_small oa, u64_small ob]
  have h1 := nadd_ev (ok_dg a) (ok_dg b)
  have h2 := nmul_ev (ok_dg a) (ok_dg b)
  rw [if_pos ⟨ga, gb⟩, val_dg oa.1, val_dg ob.1] at h1 h2
  rw [told_of (by omega)] at h1 h2
  refine Ev.bind_const (of_eq oa) (Ev.bind_const (of_eq ob) (Ev.bind h1 (Ev.bind h2 ?_)))
  by_cases c : a < b
  · refine Ev.pos c (Ev.step (fun k => by rw [syzygylaw02_NatOrder.j0]) (Ev.neg (by omega) ?_))
    have e : cmpv a b = -1 := by unfold cmpv; rw [if_pos c]
    rw [e] at core
    exact core
  · refine Ev.neg c (Ev.step (fun k => by rw [syzygylaw02_NatOrder.j0]) ?_)
    by_cases d : a > b
    · refine Ev.pos d ?_
      have e : cmpv a b = 1 := by unfold cmpv; rw [if_neg c, if_neg (by omega)]
      rw [e] at core
      exact core
    · refine Ev.neg d ?_
      have e : cmpv a b = 0 := by unfold cmpv; rw [if_neg c, if_pos (by omega)]
      rw [e] at core
      exact core
end Go.Proofs.Ytmknpclfanblfaa.Pure
