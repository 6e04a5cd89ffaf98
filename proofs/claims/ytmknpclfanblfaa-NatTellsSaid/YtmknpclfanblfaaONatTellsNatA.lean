/- nat's functions, as numbers. -/
import Derived.Test.YtmknpclfanblfaaONatTellsLimbR
set_option linter.unusedVariables false
set_option linter.unusedSimpArgs false
namespace Go.Proofs.Ytmknpclfanblfaa.EONatTells
open Go.RowKit Go.Proofs.Ytmknpclfanblfaa.PONatTells Go.Proofs.YtmknpclfanblfaaN Go.Proofs.YtmknpclfanblfaaW.PrintWords Go.Proofs.YtmknpclfanblfaaW.PrintLast Go.Proofs.YtmknpclfanblfaaW.PrintMore
def Held (l : List Int) : Prop := l.length ≤ 8 ∧ (l = [] ∨ l.getD (l.length - 1) 0 ≠ 0)
instance (l : List Int) : Decidable (Held l) := by unfold Held; infer_instance
theorem Held.dg {l : List Int} (h : Held l) (ho : Ok l) : Go.Proofs.YtmknpclfanblfaaN.dg (val l) = l := dg_val ho h.2
theorem held_dg {n : Int} {l : List Int} (h : (dg n).length ≤ 8) : Held (dg n) := ⟨h, dg_last n⟩
theorem held_bne {l : List Int} (h : l.length ≤ 8) (h0 : ¬ l = []) : (l.getD (l.length - 1) 0 != 0) = decide (Held l) := by
  rw [Bool.eq_iff_iff, bne_iff_ne]
  exact ⟨fun q => decide_eq_true ⟨h, .inr q⟩, fun q => ((of_decide_eq_true q).2).elim (fun e => absurd e h0) id⟩
theorem may_eq (l : List Int) : nat_May.f l = some (decide (Held l)) := by
  unfold nat_May.f
  by_cases h : l.length ≤ 8
  · rw [if_pos (by omega)]
    by_cases h0 : l = []
    · subst h0
      rfl
    · have hl := List.length_pos_iff.2 h0
      have hw : wrap64 ((l.length : Int) - 1) = ((l.length - 1 : Nat) : Int) := by rw [w64 (by omega)]; omega
      rw [if_neg (by omega), hw, if_pos (by omega), if_pos (by omega), rd_nat, held_bne h h0]
  · rw [if_neg (by omega), decide_eq_false (fun q => h q.1)]
theorem of_eq {n : Int} (h : 0 ≤ n ∧ n < B) : nat_Of.f n = some (dg n) := by
  unfold nat_Of.f
  by_cases hz : n = 0
  · rw [if_pos hz, hz, dg_zero]
  · rw [if_neg hz]
    have := dg_val (Ok.one h.1 h.2) (.inr (by simpa using hz))
    rw [val_one] at this
    rw [this]
def told (x : Int) : List Int × Int := if 8 < (dg x).length then ([], 21) else (dg x, 0)
theorem told_of {x : Int} (h : x < B ^ 8) : told x = (dg x, 0) := if_neg (by have := dg_len h; omega)
theorem rmay_eq (l : List Int) : syzygyref02_May.f l = some (decide (Held l)) := by
  unfold syzygyref02_May.f
  by_cases h : l.length ≤ 8
  · rw [if_pos (by omega)]
    by_cases h0 : l = []
    · subst h0
      rfl
    · have hl := List.length_pos_iff.2 h0
      have hw : wrap64 ((l.length : Int) - 1) = ((l.length - 1 : Nat) : Int) := by rw [w64 (by omega)]; omega
      rw [if_neg (by omega), hw, if_pos (by omega), if_pos (by omega), rd_nat, held_bne h h0]
  · rw [if_neg (by omega), decide_eq_false (fun q => h q.1)]
theorem told_held (x : Int) : Held (told x).1 := by
  unfold told
  by_cases h : 8 < (dg x).length
  · rw [if_pos h]; exact ⟨by decide, .inl rfl⟩
  · rw [if_neg h]; exact ⟨by simp only; omega, dg_last x⟩
theorem told_err (x : Int) : (told x).2 = if 8 < (dg x).length then 21 else 0 := by
  unfold told
  split <;> rfl
theorem nadd_ev {a b : List Int} (ha : Ok a) (hb : Ok b) : Ev (fun k => nat_Add.f k a b) (if Held a ∧ Held b then told (val a + val b) else ([], 1)) := by
  unfold nat_Add.f
  refine Ev.bind_const (may_eq a) ?_
  by_cases h1 : Held a
  · refine Ev.pos (decide_eq_true h1) (Ev.bind_const (may_eq b) ?_)
    by_cases h2 : Held b
    · rw [if_pos ⟨h1, h2⟩]
      refine Ev.pos (decide_eq_true h2) (Ev.bind (add_ev ha hb (by have := h1.1; omega) (by have := h2.1; omega)) ?_)
      unfold told
      by_cases h : 8 < (dg (val a + val b)).length
      · rw [if_pos h]; exact Ev.pos (by omega) (Ev.now _)
      · rw [if_neg h]; exact Ev.neg (by omega) (Ev.now _)
    · rw [if_neg (fun h => h2 h.2)]
      exact Ev.neg (by simpa using h2) (Ev.now _)
  · rw [if_neg (fun h => h1 h.1)]
    exact Ev.neg (by simpa using h1) (Ev.now _)
theorem nmul_ev {a b : List Int} (ha : Ok a) (hb : Ok b) : Ev (fun k => nat_Mul.f k a b) (if Held a ∧ Held b then told (val a * val b) else ([], 1)) := by
  unfold nat_Mul.f
  refine Ev.bind_const (may_eq a) ?_
  by_cases h1 : Held a
  · refine Ev.pos (decide_eq_true h1) (Ev.bind_const (may_eq b) ?_)
    by_cases h2 : Held b
    · rw [if_pos ⟨h1, h2⟩]
      refine Ev.pos (decide_eq_true h2) (Ev.bind (mul_ev ha hb (by have := h1.1; omega) (by have := h2.1; omega)) ?_)
      unfold told
      by_cases h : 8 < (dg (val a * val b)).length
      · rw [if_pos h]; exact Ev.pos (by omega) (Ev.now _)
      · rw [if_neg h]; exact Ev.neg (by omega) (Ev.now _)
    · rw [if_neg (fun h => h2 h.2)]
      exact Ev.neg (by simpa using h2) (Ev.now _)
  · rw [if_neg (fun h => h1 h.1)]
    exact Ev.neg (by simpa using h1) (Ev.now _)
theorem nsub_ev {a b : List Int} (ha : Ok a) (hb : Ok b) : Ev (fun k => nat_Sub.f k a b) (if Held a ∧ Held b then (if val a < val b then ([], 20) else (dg (val a - val b), 0)) else ([], 1)) := by
  unfold nat_Sub.f nat_Sub.b
  by_cases h1 : Held a
  · by_cases h2 : Held b
    · rw [if_pos ⟨h1, h2⟩]
      have hv := val_nonneg hb
      have ra := Row.of ha h1.1
      have rb := Row.of hb h2.1
      refine Ev.bind (a := (if val a < val b then ([], 0, true) else (dg (val a - val b), 0, false))) (Ev.bind_const (may_eq a) (Ev.pos (decide_eq_true h1) (Ev.bind_const (may_eq b) (Ev.pos (decide_eq_true h2) (Ev.bind (sub_ev ha hb (by have := h1.1; omega) (by have := h2.1; omega)) ?_))))) ?_
      · by_cases h : val a < val b
        · rw [if_pos h, if_pos h]; exact Ev.neg (by simp) (Ev.now _)
        · rw [if_neg h, if_neg h]
          have hl := (ra.sub rb (by omega)).2.2
          exact Ev.neg (by simp only; omega) (Ev.now _)
      · by_cases h : val a < val b
        · rw [if_pos h, if_pos h]; exact Ev.pos rfl (Ev.now _)
        · rw [if_neg h, if_neg h]; exact Ev.neg (by simp) (Ev.now _)
    · rw [if_neg (fun h => h2 h.2)]
      exact Ev.bind (a := ([], 1, false)) (Ev.bind_const (may_eq a) (Ev.pos (decide_eq_true h1) (Ev.bind_const (may_eq b) (Ev.neg (by simpa using h2) (Ev.now _))))) (Ev.neg (by simp) (Ev.now _))
  · rw [if_neg (fun h => h1 h.1)]
    exact Ev.bind (a := ([], 1, false)) (Ev.bind_const (may_eq a) (Ev.neg (by simpa using h1) (Ev.now _))) (Ev.neg (by simp) (Ev.now _))
theorem ncmp_ev {a b : List Int} (ha : Ok a) (hb : Ok b) (hal : a.length ≤ 17592186044416) (hbl : b.length ≤ 17592186044416) : Ev (fun k => nat_Cmp.f k a b) (cmpv (val a) (val b)) := Ev.bind (cmp_ev ha hb hal hbl) (Ev.now _)
theorem nsame_ev (a b : List Int) (h : a.length ≤ 17592186044416) : Ev (fun k => syzygyref02_Same.f k a b) (decide (a = b)) := Ev.bind (same_ev a b h) (Ev.now _)
theorem nsameT {a b : List Int} (h : a.length ≤ 17592186044416) (e : a = b) : Ev (fun k => syzygyref02_Same.f k a b) true := Ev.eq (nsame_ev a b h) (by simp [e])
theorem held_of_dg {x : Int} (h : x < B ^ 8) : Held (dg x) := held_dg (l := []) (dg_len h)
theorem B8 : B ≤ B ^ 8 := by decide
theorem dg_one {x : Int} (h : 0 < x) (hb : x < B) : dg x = [x] := by
  have := dg_val (Ok.one (Int.le_of_lt h) hb) (.inr (by simp; omega))
  rwa [val_one] at this
theorem nshown_ev : Ev (fun k => syzygylaw02_shown.f k) true := by
  unfold syzygylaw02_shown.f
  refine Ev.bind_const (of_eq (by decide)) (Ev.bind_const (of_eq (by decide)) (Ev.bind (nadd_ev (ok_dg _) (ok_dg _)) ?_))
  rw [if_pos ⟨held_of_dg (by decide), held_of_dg (by decide)⟩, val_dg (by decide), val_dg (by decide), told_of (by decide)]
  refine Ev.pos rfl (Ev.bind (nsameT (Nat.le_trans (dg_len (m := 8) (by decide)) (by decide)) ?_) (Ev.now _))
  exact dg_one (by decide) (by decide)
end Go.Proofs.Ytmknpclfanblfaa.EONatTells
