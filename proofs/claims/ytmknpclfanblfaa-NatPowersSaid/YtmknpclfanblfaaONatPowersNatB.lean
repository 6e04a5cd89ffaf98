/- nat.Power and its reference, as numbers. -/
import Derived.Test.YtmknpclfanblfaaONatPowersNatC
import Derived.Test.YtmknpclfanblfaaONatPowersLimbI
set_option linter.unusedVariables false
set_option linter.unusedSimpArgs false
namespace Go.Proofs.Ytmknpclfanblfaa.EONatPowers
open Go.RowKit Go.Proofs.Ytmknpclfanblfaa.PONatPowers Go.Proofs.YtmknpclfanblfaaN Go.Proofs.YtmknpclfanblfaaW.PrintWords Go.Proofs.YtmknpclfanblfaaW.PrintLast Go.Proofs.YtmknpclfanblfaaW.PrintMore
theorem told_eq (x : Int) : told x = if x < B ^ 8 then (dg x, 0) else ([], 21) := by
  unfold told
  by_cases h : x < B ^ 8
  · rw [if_pos h, if_neg (by have := dg_len h; omega)]
  · rw [if_neg h, if_pos (by have := mt (len_dg (n := x) (m := 8)) h; omega)]
theorem told_no {x : Int} (h : ¬ x < B ^ 8) : told x = ([], 21) := by rw [told_eq, if_neg h]
theorem and_one {n : Int} (h0 : 0 ≤ n) (h : n < 9223372036854775808) : Go.bits .and .i64 n 1 = n % 2 := by
  obtain ⟨a, rfl⟩ := Int.eq_ofNat_of_zero_le h0
  have h1 : (BitVec.ofInt 64 (a : Int)).toNat = a := by
    rw [BitVec.ofInt_natCast, BitVec.toNat_ofNat]; exact Nat.mod_eq_of_lt (by omega)
  have h2 : (BitVec.ofInt 64 (1 : Int)).toNat = 1 := by decide
  show IntKind.i64.wrap ((BitVec.ofInt 64 (a : Int) &&& BitVec.ofInt 64 (1 : Int)).toNat : Int) = _
  have h3 : a &&& 1 = a % 2 := Nat.and_one_is_mod a
  rw [BitVec.toNat_and, h1, h2, h3, i64_w]
  unfold wrap64
  omega
theorem dg_len8 {x : Int} : ((dg x).length : Int) > 8 ↔ ¬ x < B ^ 8 := by
  have := dg_len_iff (n := x) (m := 8)
  constructor
  · intro h q; have := this.2 q; omega
  · intro h; have := mt this.1 h; omega
theorem pow_ge_one {v : Int} (h : 1 ≤ v) (n : Nat) : 1 ≤ v ^ n := Int.pow_pos (show 0 < v from h)
theorem pow_mono_right {v : Int} (h : 1 ≤ v) {m n : Nat} (hm : m ≤ n) : v ^ m ≤ v ^ n := by
  obtain ⟨k, rfl⟩ := Nat.le.dest hm
  rw [Int.pow_add]
  have h1 := pow_ge_one h m
  have h2 := pow_ge_one h k
  have : v ^ m * 1 ≤ v ^ m * v ^ k := Int.mul_le_mul_of_nonneg_left h2 (by omega)
  omega
theorem pow_mono_left {v u : Int} (h0 : 0 ≤ v) (h : v ≤ u) (n : Nat) : v ^ n ≤ u ^ n := by
  induction n with
  | zero => simp
  | succ n ih =>
    rw [Int.pow_succ, Int.pow_succ]
    exact Int.le_trans (Int.mul_le_mul_of_nonneg_left h (Int.pow_nonneg h0)) (Int.mul_le_mul_of_nonneg_right ih (by omega))
theorem B8_two : B ^ 8 = 2 ^ 512 := Bpow_two 8
theorem B8_pos : 1 < B ^ 8 := by decide
theorem npow_odd {X Y V : Int} {m : Nat} (h : X * Y ^ (2 * m + 1) = V) : X * Y * (Y * Y) ^ m = V := by
  rw [← h, Int.pow_succ, Int.pow_mul, show Y ^ 2 = Y * Y from by rw [Int.pow_succ, Int.pow_succ, Int.pow_zero, Int.one_mul], Int.mul_assoc, Int.mul_comm Y]
theorem npow_even {X Y V : Int} {m : Nat} (h : X * Y ^ (2 * m) = V) : X * (Y * Y) ^ m = V := by
  rw [← h, Int.pow_mul, show Y ^ 2 = Y * Y from by rw [Int.pow_succ, Int.pow_succ, Int.pow_zero, Int.one_mul]]
theorem npow_go {v V : Int} (hv : 0 ≤ v) : ∀ (n : Nat), n < 9223372036854775808 → ∀ (X Y : Int), 0 ≤ X → 0 ≤ Y → X < B ^ 8 → Y < B ^ 8 → (1 ≤ v → 1 ≤ X ∧ 1 ≤ Y) → (v = 0 → Y = 0) → X * Y ^ n = V →
    Ev (fun k => nat_Power.l0 k (n : Int) (dg X) (dg Y)) (told V) := by
  intro n
  induction n using Nat.strongRecOn with
  | _ n ih =>
    intro hn X Y hX hY hX8 hY8 h1 h0 hV
    by_cases hz : n = 0
    · subst hz
      simp only [Int.pow_zero, Int.mul_one] at hV
      subst hV
      rw [told_of hX8]
      exact Ev.step (fun k => by rw [nat_Power.l0]) (Ev.neg (by simp) (Ev.now _))
    · have and1 := and_one (n := (n : Int)) (by omega) (by omega)
      have lX : (dg X).length ≤ 8 := dg_len hX8
      have lY : (dg Y).length ≤ 8 := dg_len hY8
      have mul : ∀ {P Q : Int}, 0 ≤ P → 0 ≤ Q → P < B ^ 8 → Q < B ^ 8 → Ev (fun k => limb_Mul.f k (dg P) (dg Q)) (dg (P * Q)) := fun p0 q0 p1 q1 => by
        have := mul_ev (ok_dg _) (ok_dg _) (Nat.le_trans (dg_len p1) (by decide)) (Nat.le_trans (dg_len q1) (by decide))
        rwa [val_dg p0, val_dg q0] at this
      have half : ∀ (X' : Int) (m : Nat), m = n / 2 → 0 ≤ X' → X' < B ^ 8 → (1 ≤ v → 1 ≤ X') → (n ≠ 1 → X' * (Y * Y) ^ m = V) → (n = 1 → X' = V) → Ev (fun k => nat_Power.j3 k (n : Int) (dg X') (dg Y)) (told V) := by
        intro X' m hm hX0 hX1 hX2 hX3 hX4
        refine Ev.step (fun k => by rw [nat_Power.j3]) ?_
        by_cases hn1 : n = 1
        · subst hn1
          obtain rfl := hX4 rfl
          rw [told_of hX1]
          exact Ev.pos rfl (Ev.now _)
        · refine Ev.neg (by omega) (Ev.bind (mul hY hY hY8 hY8) ?_)
          have hV' := hX3 hn1
          have hm1 : 1 ≤ m := by omega
          by_cases hb : Y * Y < B ^ 8
          · refine Ev.neg (fun q => (dg_len8.1 q) hb) ?_
            have e : (n : Int) / 2 = ((m : Nat) : Int) := by omega
            rw [e]
            refine ih m (by omega) (by omega) X' (Y * Y) hX0 (Int.mul_nonneg hY hY) hX1 hb (fun q => ⟨hX2 q, ?_⟩) (fun q => by rw [h0 q]; rfl) hV'
            have := (h1 q).2
            have : 1 * 1 ≤ Y * Y := Int.mul_le_mul this this (by decide) hY
            omega
          · refine Ev.pos (dg_len8.2 hb) ?_
            have hv1 : 1 ≤ v := by
              rcases Int.lt_or_le 0 v with q | q
              · exact q
              · have : v = 0 := by omega
                exact absurd (by rw [h0 this]; decide) hb
            have hX1' := hX2 hv1
            have hYY : 1 ≤ Y * Y := by have := B8_pos; omega
            have h4 : (Y * Y) ^ 1 ≤ (Y * Y) ^ m := pow_mono_right hYY hm1
            have h5 : 1 * (Y * Y) ^ m ≤ X' * (Y * Y) ^ m := Int.mul_le_mul_of_nonneg_right hX1' (Int.pow_nonneg (by omega))
            rw [Int.pow_succ, Int.pow_zero, Int.one_mul] at h4
            rw [told_no (by omega)]
            exact Ev.now _
      refine Ev.step (fun k => by rw [nat_Power.l0]) (Ev.pos (by omega) ?_)
      rw [and1]
      by_cases ho : n % 2 = 1
      · obtain ⟨m, hm⟩ : ∃ m, n = 2 * m + 1 := ⟨n / 2, by omega⟩
        refine Ev.pos (by omega) (Ev.bind (mul hX hY hX8 hY8) ?_)
        have hV' : X * Y * (Y * Y) ^ m = V := npow_odd (by rw [← hm]; exact hV)
        by_cases hb : X * Y < B ^ 8
        · refine Ev.neg (fun q => (dg_len8.1 q) hb) ?_
          refine half (X * Y) m (by omega) (Int.mul_nonneg hX hY) hb (fun q => ?_) (fun _ => hV') (fun q => ?_)
          · obtain ⟨q1, q2⟩ := h1 q
            have : 1 * 1 ≤ X * Y := Int.mul_le_mul q1 q2 (by decide) hX
            omega
          · have : m = 0 := by omega
            rw [this, Int.pow_zero, Int.mul_one] at hV'
            exact hV'
        · refine Ev.pos (dg_len8.2 hb) ?_
          have hY1 : 1 ≤ Y := by
            rcases Int.lt_or_le 0 Y with q | q
            · exact q
            · have : Y = 0 := by omega
              exact absurd (by rw [this, Int.mul_zero]; decide) hb
          have hYY : 1 ≤ (Y * Y) ^ m := pow_ge_one (by have : 1 * 1 ≤ Y * Y := Int.mul_le_mul hY1 hY1 (by decide) hY; omega) m
          have h5 : X * Y * 1 ≤ X * Y * (Y * Y) ^ m := Int.mul_le_mul_of_nonneg_left hYY (Int.mul_nonneg hX hY)
          rw [told_no (by omega)]
          exact Ev.now _
      · obtain ⟨m, hm⟩ : ∃ m, n = 2 * m := ⟨n / 2, by omega⟩
        refine Ev.neg (by omega) ?_
        exact half X m (by omega) hX hX8 (fun q => (h1 q).1) (fun _ => npow_even (by rw [← hm]; exact hV)) (fun q => by omega)
theorem npower_ev {a : List Int} (ha : Ok a) {n : Int} (hn : n < 9223372036854775808) : Ev (fun k => nat_Power.f k a n) (if Held a ∧ 0 ≤ n then told (val a ^ n.toNat) else ([], 1)) := by
  unfold nat_Power.f
  refine Ev.bind_const (may_eq a) ?_
  by_cases h1 : Held a
  · refine Ev.pos (decide_eq_true h1) ?_
    refine Ev.step (fun k => by rw [nat_Power.j0]) ?_
    by_cases h2 : n < 0
    · rw [if_neg (fun q => by omega)]
      exact Ev.pos (decide_eq_true h2) (Ev.now _)
    · rw [if_pos ⟨h1, by omega⟩]
      refine Ev.neg (by simpa using h2) ?_
      have hv := val_nonneg ha
      have hl := h1.1
      have hv8 : val a < B ^ 8 := Int.lt_of_lt_of_le (val_lt ha) (Bpow_mono hl)
      have main : Ev (fun k => nat_Power.j1 k a n) (told (val a ^ n.toNat)) := by
        refine Ev.step (fun k => by rw [nat_Power.j1]) (Ev.bind_const (of_eq (by decide)) (Ev.bind (Trim_ev ha (by omega)) ?_))
        have e : n = ((n.toNat : Nat) : Int) := by omega
        have := npow_go hv n.toNat (by omega) 1 (val a) (by decide) hv (by decide) hv8 (fun q => ⟨by decide, q⟩) (fun q => q) (Int.one_mul _)
        rwa [← e] at this
      by_cases h3 : n > 0
      · refine Ev.pos h3 ?_
        obtain ⟨b, hb, hbits⟩ := IsBits.ex (n := 64 * 8) hv (by rw [← Bpow_two]; exact hv8)
        refine Ev.bind (bits_ev ha (by omega) hbits) ?_
        by_cases h4 : (b : Int) > 1
        · refine Ev.pos h4 ?_
          by_cases h5 : n > 512
          · refine Ev.pos h5 ?_
            rcases hbits with ⟨_, q⟩ | ⟨m, q1, q2, q3⟩
            · omega
            · have hv2 : 2 ≤ val a := by
                have : (2 : Int) ^ 1 ≤ 2 ^ m := pow_mono_right (by decide) (by omega)
                omega
              have h6 : (2 : Int) ^ 512 ≤ 2 ^ n.toNat := pow_mono_right (by decide) (by omega)
              have h7 := pow_mono_left (by decide : (0 : Int) ≤ 2) hv2 n.toNat
              have h8 := B8_two
              rw [told_no (by omega)]
              exact Ev.now _
          · exact Ev.neg h5 main
        · exact Ev.neg h4 main
      · exact Ev.neg h3 main
  · rw [if_neg (fun h => h1 h.1)]
    exact Ev.neg (by simpa using h1) (Ev.step (fun k => by rw [nat_Power.j0]) (Ev.pos rfl (Ev.now _)))
theorem rpow_go {a : List Int} (ha : Ok a) (h1 : Held a) {N : Nat} (hN : N < 9223372036854775808) : ∀ (d i : Nat), i + d = N → val a ^ i < B ^ 8 → Ev (fun k => syzygyref02_Power.l0 k a (N : Int) (dg (val a ^ i)) (i : Int)) (told (val a ^ N)) := by
  intro d
  have hv := val_nonneg ha
  induction d with
  | zero =>
    intro i hi hb
    obtain rfl : i = N := by omega
    rw [told_of hb]
    exact Ev.step (fun k => by rw [syzygyref02_Power.l0]) (Ev.neg (by omega) (Ev.now _))
  | succ d ih =>
    intro i hi hb
    refine Ev.step (fun k => by rw [syzygyref02_Power.l0]) (Ev.pos (by omega) ?_)
    have hm := rnmul_ev (ok_dg (val a ^ i)) ha
    rw [if_pos ⟨held_of_dg hb, h1⟩, val_dg (Int.pow_nonneg hv), ← Int.pow_succ] at hm
    refine Ev.bind hm ?_
    by_cases hb' : val a ^ (i + 1) < B ^ 8
    · rw [told_of hb']
      refine Ev.pos rfl ?_
      have e : wrap64 ((i : Int) + 1) = ((i + 1 : Nat) : Int) := by unfold wrap64; omega
      rw [e]
      exact ih (i + 1) (by omega) hb'
    · rw [told_no hb']
      refine Ev.neg (by decide) ?_
      have hv1 : 1 ≤ val a := by
        rcases Int.lt_or_le 0 (val a) with q | q
        · exact q
        · have e : val a = 0 := by omega
          exact absurd (by rw [e, Int.zero_pow (by omega)]; decide) hb'
      have := pow_mono_right hv1 (show i + 1 ≤ N by omega)
      rw [told_no (by omega)]
      exact Ev.now _
theorem rpower_ev {a : List Int} (ha : Ok a) {n : Int} (hn : n < 9223372036854775808) : Ev (fun k => syzygyref02_Power.f k a n) (if Held a ∧ 0 ≤ n then told (val a ^ n.toNat) else ([], 1)) := by
  unfold syzygyref02_Power.f
  refine Ev.bind_const (rmay_eq a) ?_
  by_cases h1 : Held a
  · refine Ev.pos (decide_eq_true h1) ?_
    refine Ev.step (fun k => by rw [syzygyref02_Power.j0]) ?_
    by_cases h2 : n < 0
    · rw [if_neg (fun q => by omega)]
      exact Ev.pos (decide_eq_true h2) (Ev.now _)
    · rw [if_pos ⟨h1, by omega⟩]
      refine Ev.neg (by simpa using h2) ?_
      have hl := h1.1
      have main : Ev (fun k => syzygyref02_Power.j1 k a n false) (told (val a ^ n.toNat)) := by
        refine Ev.step (fun k => by rw [syzygyref02_Power.j1]) (Ev.neg (by simp) (Ev.bind (rof_ev (by decide)) ?_))
        have e : n = ((n.toNat : Nat) : Int) := by omega
        have := rpow_go ha h1 (N := n.toNat) (by omega) n.toNat 0 (by omega) (by rw [Int.pow_zero]; decide)
        rw [Int.pow_zero] at this
        rwa [← e] at this
      have small : ∀ v : Int, (v = 0 ∨ v = 1) → val a = v → n > 600 → Ev (fun k => syzygyref02_Power.j1 k a n true) (told (val a ^ n.toNat)) := by
        intro v hv01 hva h3
        have e : val a ^ n.toNat = val a := by
          rcases hv01 with rfl | rfl
          · rw [hva, Int.zero_pow (by omega)]
          · rw [hva, Int.one_pow]
        have hb : val a < B ^ 8 := Int.lt_of_lt_of_le (val_lt ha) (Bpow_mono hl)
        rw [e, told_of hb, h1.dg ha]
        exact Ev.step (fun k => by rw [syzygyref02_Power.j1]) (Ev.pos rfl (Ev.now _))
      by_cases h3 : n > 600
      · refine Ev.pos h3 ?_
        by_cases h4 : (a.length : Int) = 0
        · exact Ev.pos h4 (small 0 (.inl rfl) (by have e : a = [] := List.eq_nil_of_length_eq_zero (by omega); rw [e]; rfl) h3)
        · refine Ev.neg h4 ?_
          by_cases h5 : (a.length : Int) = 1
          · refine Ev.pos h5 (Ev.pos (by omega) ?_)
            obtain ⟨x, rfl⟩ : ∃ x, a = [x] := List.length_eq_one_iff.1 (by omega)
            have hr : rd [x] 0 = x := rfl
            rw [hr]
            by_cases h6 : x = 1
            · subst h6
              exact small 1 (.inr rfl) (val_one 1) h3
            · have : (x == 1) = false := beq_eq_false_iff_ne.mpr h6
              rw [this]
              exact main
          · exact Ev.neg h5 main
      · exact Ev.neg h3 main
  · rw [if_neg (fun h => h1 h.1)]
    exact Ev.neg (by simpa using h1) (Ev.step (fun k => by rw [syzygyref02_Power.j0]) (Ev.pos rfl (Ev.now _)))
end Go.Proofs.Ytmknpclfanblfaa.EONatPowers
