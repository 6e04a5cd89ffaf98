/- Differences, sums of rows and products, as numbers. -/
import Derived.Test.YtmknpclfanblfaaONatMinusLimbA
set_option linter.unusedVariables false
set_option linter.unusedSimpArgs false
namespace Go.Proofs.Ytmknpclfanblfaa.EONatMinus
open Go.RowKit Go.Proofs.Ytmknpclfanblfaa.PONatMinus Go.Proofs.YtmknpclfanblfaaN Go.Proofs.YtmknpclfanblfaaW.PrintWords Go.Proofs.YtmknpclfanblfaaW.PrintLast Go.Proofs.YtmknpclfanblfaaW.PrintMore
/-! Sub -/
theorem sb_bb {x y c : Int} (hx : 0 ≤ x ∧ x < B) (hy : 0 ≤ y ∧ y < B) (hc : 0 ≤ c ∧ c ≤ 1) : sb64 x y c - B * bb64 x y c = x - y - c ∧ (0 ≤ sb64 x y c ∧ sb64 x y c < B) ∧ 0 ≤ bb64 x y c ∧ bb64 x y c ≤ 1 := by
  unfold sb64 bb64
  rw [B_eq] at *
  split <;> omega
theorem sub_val {V v p s t y c c' r' Q : Int} (h1 : s - B * c' = t - y - c) (ih : V + p * B * (c' + r') = v + p * (s - t) + Q) : V + p * (c + (y + B * r')) = v + Q := by
  have e : c + (y + B * r') = (t - s) + B * (c' + r') := by rw [Int.mul_add]; omega
  have e2 : p * (c + (y + B * r')) = p * (t - s) + p * B * (c' + r') := by rw [e, Int.mul_add, Int.mul_assoc]
  have e3 : p * (t - s) = - (p * (s - t)) := by rw [← Int.mul_neg]; congr 1; omega
  omega
theorem part_succ (b : List Int) (d i : Nat) : val ((b.drop i).take (d + 1)) = b.getD i 0 + B * val ((b.drop (i + 1)).take d) := by
  by_cases h : i < b.length
  · rw [List.drop_eq_getElem_cons h, List.take_succ_cons, val_cons, List.getD_eq_getElem?_getD, List.getElem?_eq_getElem h]; rfl
  · rw [List.drop_eq_nil_of_le (by omega), List.drop_eq_nil_of_le (by omega), getD_none (by omega)]
    simp [val]
theorem sub_go (b : List Int) (hb : Ok b) : ∀ (d : Nat) (x : List Int) (c : Int) (i : Nat), Ok x → (0 ≤ c ∧ c ≤ 1) → i + d = x.length →
    Ok (limb_Sub.l0 d x b c i) ∧ (limb_Sub.l0 d x b c i).length = x.length ∧ ∃ ce, (0 ≤ ce ∧ ce ≤ 1) ∧ val (limb_Sub.l0 d x b c i) + B ^ i * (c + val ((b.drop i).take d)) = val x + B ^ (i + d) * ce := by
  intro d
  induction d with
  | zero =>
    intro x c i hx hc hi
    refine ⟨hx, rfl, c, hc, ?_⟩
    simp [limb_Sub.l0, val]
  | succ d ih =>
    intro x c i hx hc hi
    have hxi := hx.at i
    obtain ⟨hs, hok, hcc⟩ := sb_bb hxi (hb.at i) hc
    obtain ⟨h1, h2, ce, h3, h4⟩ := ih (x.set i (sb64 (x.getD i 0) (b.getD i 0) c)) (bb64 (x.getD i 0) (b.getD i 0) c) (i + 1) (hx.set i hok.1 hok.2) hcc (by rw [List.length_set]; omega)
    rw [limb_Sub.l0]
    refine ⟨h1, by rw [h2, List.length_set], ce, h3, ?_⟩
    rw [part_succ, show i + (d + 1) = i + 1 + d from by omega]
    refine sub_val hs ?_
    rw [val_set (by omega : i < x.length), Bpow_succ] at h4
    exact h4
theorem sub_all {x b : List Int} (hx : Ok x) (hb : Ok b) (h : val b ≤ val x) : Ok (limb_Sub.l0 x.length x b 0 0) ∧ (limb_Sub.l0 x.length x b 0 0).length = x.length ∧ val (limb_Sub.l0 x.length x b 0 0) = val x - val b := by
  obtain ⟨h1, h2, ce, h3, h4⟩ := sub_go b hb x.length x 0 0 hx (by omega) (by omega)
  refine ⟨h1, h2, ?_⟩
  have hp := Bpow_pos x.length
  have hxl := val_lt hx
  have hy0 := val_nonneg h1
  have hyl := val_lt h1
  rw [h2] at hyl
  have hbt : val (b.take x.length) = val b := by
    by_cases hl : b.length ≤ x.length
    · rw [List.take_of_length_le hl]
    · have e := val_take_drop b x.length (by omega)
      have n1 := val_nonneg (hb.take x.length)
      have n2 := val_nonneg (hb.drop x.length)
      have : val (b.drop x.length) = 0 := by
        rcases Int.lt_or_le 0 (val (b.drop x.length)) with h5 | h5
        · have : B ^ x.length * 1 ≤ B ^ x.length * val (b.drop x.length) := Int.mul_le_mul_of_nonneg_left (by omega) (by omega)
          omega
        · omega
      rw [this] at e
      omega
  simp only [List.drop_zero, Int.pow_zero, Int.one_mul, Int.zero_add, hbt, Nat.zero_add] at h4
  have : ce = 0 := by
    rcases Int.lt_or_le 0 ce with h5 | h5
    · have e1 : ce = 1 := by omega
      rw [e1] at h4
      have n1 := val_nonneg hb
      omega
    · omega
  rw [this] at h4
  omega
theorem sub_ev {a b : List Int} (ha : Ok a) (hb : Ok b) (hal : a.length ≤ 4294967296) (hbl : b.length ≤ 4294967296) : Ev (fun k => limb_Sub.f k a b) (if val a < val b then ([], false) else (dg (val a - val b), true)) := by
  unfold limb_Sub.f
  refine Ev.bind (cmp_ev ha hb (by omega) (by omega)) ?_
  by_cases h : val a < val b
  · rw [if_pos h]
    exact Ev.pos (cmpv_neg.2 h) (Ev.now _)
  · rw [if_neg h]
    refine Ev.neg (fun e => h (cmpv_neg.1 e)) (Ev.bind (Trim_ev ha (by omega)) ?_)
    have h0 := val_nonneg ha
    have hl := dg_len_val ha
    obtain ⟨h1, h2, h3⟩ := sub_all (ok_dg (val a)) hb (by rw [val_dg h0]; omega)
    rw [val_dg h0] at h3
    have := trim_ev h1 (by rw [h2]; omega)
    rw [h3] at this
    exact Ev.bind this (Ev.now _)
end Go.Proofs.Ytmknpclfanblfaa.EONatMinus
