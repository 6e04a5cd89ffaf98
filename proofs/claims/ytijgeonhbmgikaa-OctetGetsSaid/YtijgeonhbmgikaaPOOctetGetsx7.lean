-- printed (pr.py)
import Derived.Test.YtijgeonhbmgikaaPOOctetGetsx0
import Derived.Test.YtijgeonhbmgikaaPOOctetGetsx5
namespace Go.Proofs.Ytijgeonhbmgikaa.POOctetGets
open Go.RowKit Go.Proofs.YtijgeonhbmgikaaN Go.Proofs.YtijgeonhbmgikaaW.PrintWords Go.Proofs.YtijgeonhbmgikaaW.PrintLast Go.Proofs.YtijgeonhbmgikaaW.PrintMore
attribute [local go_sem] qC zy qR qP za zZ qA zx
set_option maxHeartbeats 8000000
set_option maxRecDepth 100000
set_option linter.unusedVariables false
set_option linter.unusedSimpArgs false

/-! ### vV: function 98 -/
def vV.l0 : Nat → List Int → List Int → Int → Option (Int)
 | 0, _, _, _ => none
 | k + 1, x0, x1, x5 => if x5 ≥ 0 then (if 0 ≤ x5 then (if x5 < (x0.length : Int) then (if x5 < (x1.length : Int) then (if (rd x0 x5) < (rd x1 x5) then (some (-1)) else (if (rd x0 x5) > (rd x1 x5) then (some 1) else (vV.l0 k x0 x1 (wrap64 (x5 - 1))))) else (none)) else (none)) else (none)) else (some 0)
def vV.f (k : Nat) (l0 : List Int) (l1 : List Int) : Option (Int) := (jQ.f k l0).bind fun t170 => ((jQ.f k l1).bind fun t173 => (if (t170.length : Int) = (t173.length : Int) then (vV.l0 k t170 t173 (wrap64 ((t170.length : Int) - 1))) else (if (t170.length : Int) < (t173.length : Int) then (some (-1)) else (some 1))))
theorem vV.vN : ∀ k, (∀ y0 y1 y2, LeO (vV.l0 k y0 y1 y2) (vV.l0 (k + 1) y0 y1 y2))
 | 0 => fun _ _ _ r h => by simp [vV.l0] at h
 | k + 1 => by
  have ih0 := vV.vN k
  ·
   intro y0 y1 y2
   unfold vV.l0
   repeat' first
   | (with_reducible exact ih0 _ _ _)
   | (with_reducible exact jQ.mono _ _)
   | (with_reducible exact LeO.refl _)
   | (with_reducible exact LeO.none _)
   | (with_reducible refine LeO.ite ?_ ?_)
   | (with_reducible refine LeO.bind ?_ (fun _ => ?_))
theorem vV.mono : ∀ a0 a1 k, LeO (vV.f k a0 a1) (vV.f (k + 1) a0 a1) := by
 intro a0 a1 k
 have ih0 := vV.vN k
 unfold vV.f
 repeat' first
   | (with_reducible exact ih0 _ _ _)
   | (with_reducible exact jQ.mono _ _)
   | (with_reducible exact LeO.refl _)
   | (with_reducible exact LeO.none _)
   | (with_reducible refine LeO.ite ?_ ?_)
   | (with_reducible refine LeO.bind ?_ (fun _ => ?_))
theorem vV.calls (k : Nat) (A0 : Option Addr) (c0 : Nat) (l0 : List Int) (A1 : Option Addr) (c1 : Nat) (l1 : List Int) (r : Int) (w : World) (hr0 : Kd.C (Kd.int .u64) w A0 l0.length l0) (hc0 : l0.length ≤ c0) (hr1 : Kd.C (Kd.int .u64) w A1 l1.length l1) (hc1 : l1.length ≤ c1) (h : vV.f k l0 l1 = some r) :
  Calls Try.prog 98 #[.slice A0 l0.length c0, .slice A1 l1.length c1] w fun e w' => e = .returned (.int .i64 r) ∧ Below w.heap.size w w' := by
 have HR0 := jA.mk hr0
 have HC0 := jA.mk hc0
 clear hr0 hc0
 have HR1 := jA.mk hr1
 have HC1 := jA.mk hc1
 clear hr1 hc1
 have HB := jA.mk (Below.refl w.heap.size w)
 have H : ((jQ.f k l0).bind fun t170 => ((jQ.f k l1).bind fun t173 => (if (t170.length : Int) = (t173.length : Int) then (vV.l0 k t170 t173 (wrap64 ((t170.length : Int) - 1))) else (if (t170.length : Int) < (t173.length : Int) then (some (-1)) else (some 1))))) = some r := h
 clear h
 replace H := ob_ H
 obtain ⟨t170, A30, H⟩ := H
 try dsimp only at H
 have A3 := jA.mk A30
 clear A30
 replace H := ob_ H
 obtain ⟨t173, A40, H⟩ := H
 try dsimp only at H
 have A4 := jA.mk A40
 clear A40
 by_cases c5 : (t170.length : Int) = (t173.length : Int)
 ·
  rw [if_pos c5] at H
  have c5b0 := beq_iff_eq.mpr c5
  have c5b1 := bne_eq_false_iff_eq.mpr c5
  have c5b2 : (t170.length == t173.length) = true := by first | simpa using c5 | (simp at c5 ⊢; omega)
  clear c5
  have H' := jA.mk H
  clear H
  go_enter Try.func98, Try.ntmps98
  go_wp2_with (first | (go_at_call 110; (with_reducible refine (jQ.calls k (fun k_ => k_ < w.heap.size) _ _ l0 t170 _ ?side1 A3.out).mono ?_); (case side1 => exact Kd.V_mk HC0.out (Kd.zX (Kd.C_F (Kd.zQ .u64) HR0.out) (bb_ HB))); rintro e w6 ⟨v171, rfl, ho0, hb⟩; have HO172 := jA.mk (Kd.zq (Kd.zV (ok' := fun k_ => True) ho0 (fun k_ hk_ => trivial)) (jB (bb_ HB))); replace HB := bs_ HB hb) | (go_at_call 110; (with_reducible refine (jQ.calls k (fun k_ => k_ < w.heap.size) _ _ l1 t173 _ ?side1 A4.out).mono ?_); (case side1 => exact Kd.V_mk HC1.out (Kd.zX (Kd.C_F (Kd.zQ .u64) HR1.out) (bb_ HB))); rintro e w7 ⟨v174, rfl, ho0, hb⟩; replace HO172 := jA.mk (Kd.jAT (rV_ HO172) hb); have HO175 := jA.mk (Kd.zq (Kd.zV (ok' := fun k_ => True) ho0 (fun k_ hk_ => trivial)) (jB (bb_ HB))); replace HB := bs_ HB hb; obtain ⟨Ao8, co8, eo8⟩ := Kd.zT HO172.out; subst eo8; obtain ⟨Ao9, co9, eo9⟩ := Kd.zT HO175.out; subst eo9))
  repeat (go_quiet (first | (go_at_call 110; (with_reducible refine (jQ.calls k (fun k_ => k_ < w.heap.size) _ _ l0 t170 _ ?side1 A3.out).mono ?_); (case side1 => exact Kd.V_mk HC0.out (Kd.zX (Kd.C_F (Kd.zQ .u64) HR0.out) (bb_ HB))); rintro e w6 ⟨v171, rfl, ho0, hb⟩; have HO172 := jA.mk (Kd.zq (Kd.zV (ok' := fun k_ => True) ho0 (fun k_ hk_ => trivial)) (jB (bb_ HB))); replace HB := bs_ HB hb) | (go_at_call 110; (with_reducible refine (jQ.calls k (fun k_ => k_ < w.heap.size) _ _ l1 t173 _ ?side1 A4.out).mono ?_); (case side1 => exact Kd.V_mk HC1.out (Kd.zX (Kd.C_F (Kd.zQ .u64) HR1.out) (bb_ HB))); rintro e w7 ⟨v174, rfl, ho0, hb⟩; replace HO172 := jA.mk (Kd.jAT (rV_ HO172) hb); have HO175 := jA.mk (Kd.zq (Kd.zV (ok' := fun k_ => True) ho0 (fun k_ hk_ => trivial)) (jB (bb_ HB))); replace HB := bs_ HB hb; obtain ⟨Ao8, co8, eo8⟩ := Kd.zT HO172.out; subst eo8; obtain ⟨Ao9, co9, eo9⟩ := Kd.zT HO175.out; subst eo9)); try go_wp2_with (first | (go_at_call 110; (with_reducible refine (jQ.calls k (fun k_ => k_ < w.heap.size) _ _ l0 t170 _ ?side1 A3.out).mono ?_); (case side1 => exact Kd.V_mk HC0.out (Kd.zX (Kd.C_F (Kd.zQ .u64) HR0.out) (bb_ HB))); rintro e w6 ⟨v171, rfl, ho0, hb⟩; have HO172 := jA.mk (Kd.zq (Kd.zV (ok' := fun k_ => True) ho0 (fun k_ hk_ => trivial)) (jB (bb_ HB))); replace HB := bs_ HB hb) | (go_at_call 110; (with_reducible refine (jQ.calls k (fun k_ => k_ < w.heap.size) _ _ l1 t173 _ ?side1 A4.out).mono ?_); (case side1 => exact Kd.V_mk HC1.out (Kd.zX (Kd.C_F (Kd.zQ .u64) HR1.out) (bb_ HB))); rintro e w7 ⟨v174, rfl, ho0, hb⟩; replace HO172 := jA.mk (Kd.jAT (rV_ HO172) hb); have HO175 := jA.mk (Kd.zq (Kd.zV (ok' := fun k_ => True) ho0 (fun k_ hk_ => trivial)) (jB (bb_ HB))); replace HB := bs_ HB hb; obtain ⟨Ao8, co8, eo8⟩ := Kd.zT HO172.out; subst eo8; obtain ⟨Ao9, co9, eo9⟩ := Kd.zT HO175.out; subst eo9)))
  go_loopg [5] k (fun kq v5 w' => ∃ (x5_1 : Int), v5 = .int .i64 x5_1 ∧ jA (vV.l0 kq t170 t173 x5_1 = some r) ∧ jA (kq ≤ k) ∧ jA (Kd.V (Kd.int .u64) 22 w' w.heap.size (fun _ => True) (.slice Ao8 t170.length co8) t170) ∧ jA (Kd.V (Kd.int .u64) 22 w' w.heap.size (fun _ => True) (.slice Ao9 t173.length co9) t173) ∧ jA (Below w.heap.size w w'))
  case atStart => exact ⟨(wrap64 ((t170.length : Int) - 1)), sd_, H', ⟨Nat.le_refl _⟩, ⟨(rV_ HO172)⟩, ⟨(rV_ HO175)⟩, ⟨(bb_ HB)⟩⟩
  case round =>
   clear H'
   try clear c1
   try clear p2
   try clear c5
   try clear c5b0
   try clear c5b1
   try clear c5b2
   try clear p6
   try clear c9
   obtain ⟨x5_1, rfl, HA, HK1, HO_0, HO_1, HB⟩ := hrel
   cases gk with
   | zero => exact absurd HA.out (by simp [vV.l0])
   | succ k1 =>
    have H := HA.out
    clear HA
    simp only [vV.l0] at H
    by_cases c10 : x5_1 ≥ 0
    ·
     rw [if_pos c10] at H
     have c10b0 := decide_eq_true c10
     clear c10
     by_cases c11 : 0 ≤ x5_1
     ·
      rw [if_pos c11] at H
      have c11b0 := decide_eq_true c11
      clear c11
      by_cases c12 : x5_1 < (t170.length : Int)
      ·
       rw [if_pos c12] at H
       have c12b0 := decide_eq_true c12
       clear c12
       by_cases c13 : x5_1 < (t173.length : Int)
       ·
        rw [if_pos c13] at H
        have c13b0 := decide_eq_true c13
        clear c13
        by_cases c14 : (rd t170 x5_1) < (rd t173 x5_1)
        ·
         rw [if_pos c14] at H
         have c14b0 := decide_eq_true c14
         clear c14
         obtain rfl := Option.some.inj H
         have p176 : 0 ≤ (x5_1 : Int) := of_decide_eq_true am_
         have q176 : x5_1 < (t170.length : Int) := of_decide_eq_true am_
         obtain ⟨ad176, e176, hx176_0⟩ := Kd.zD (Kd.vW HO_0.out).2.2 x5_1 p176 q176
         cases e176
         replace p176 := eq_true p176
         replace q176 := eq_true q176
         have p177 : 0 ≤ (x5_1 : Int) := of_decide_eq_true am_
         have q177 : x5_1 < (t173.length : Int) := of_decide_eq_true am_
         obtain ⟨ad177, e177, hx177_0⟩ := Kd.zD (Kd.vW HO_1.out).2.2 x5_1 p177 q177
         cases e177
         replace p177 := eq_true p177
         replace q177 := eq_true q177
         go_wp2
         repeat (go_quiet (fail); try go_wp2)
         go_ret
         exact ⟨ew_, (bb_ HB)⟩
        ·
         rw [if_neg c14] at H
         have c14b0 := decide_eq_false c14
         clear c14
         by_cases c15 : (rd t170 x5_1) > (rd t173 x5_1)
         ·
          rw [if_pos c15] at H
          have c15b0 := decide_eq_true c15
          clear c15
          obtain rfl := Option.some.inj H
          have p176 : 0 ≤ (x5_1 : Int) := of_decide_eq_true am_
          have q176 : x5_1 < (t170.length : Int) := of_decide_eq_true am_
          obtain ⟨ad176, e176, hx176_0⟩ := Kd.zD (Kd.vW HO_0.out).2.2 x5_1 p176 q176
          cases e176
          replace p176 := eq_true p176
          replace q176 := eq_true q176
          have p177 : 0 ≤ (x5_1 : Int) := of_decide_eq_true am_
          have q177 : x5_1 < (t173.length : Int) := of_decide_eq_true am_
          obtain ⟨ad177, e177, hx177_0⟩ := Kd.zD (Kd.vW HO_1.out).2.2 x5_1 p177 q177
          cases e177
          replace p177 := eq_true p177
          replace q177 := eq_true q177
          have p178 : 0 ≤ (x5_1 : Int) := of_decide_eq_true am_
          have q178 : x5_1 < (t170.length : Int) := of_decide_eq_true am_
          obtain ⟨ad178, e178, hx178_0⟩ := Kd.zD (Kd.vW HO_0.out).2.2 x5_1 p178 q178
          obtain rfl : ad176 = ad178 := (by injection e178)
          replace p178 := eq_true p178
          replace q178 := eq_true q178
          have p179 : 0 ≤ (x5_1 : Int) := of_decide_eq_true am_
          have q179 : x5_1 < (t173.length : Int) := of_decide_eq_true am_
          obtain ⟨ad179, e179, hx179_0⟩ := Kd.zD (Kd.vW HO_1.out).2.2 x5_1 p179 q179
          obtain rfl : ad177 = ad179 := (by injection e179)
          replace p179 := eq_true p179
          replace q179 := eq_true q179
          go_wp2
          repeat (go_quiet (fail); try go_wp2)
          go_ret
          exact ⟨ew_, (bb_ HB)⟩
         ·
          rw [if_neg c15] at H
          have c15b0 := decide_eq_false c15
          clear c15
          have H' := jA.mk H
          clear H
          have p176 : 0 ≤ (x5_1 : Int) := of_decide_eq_true am_
          have q176 : x5_1 < (t170.length : Int) := of_decide_eq_true am_
          obtain ⟨ad176, e176, hx176_0⟩ := Kd.zD (Kd.vW HO_0.out).2.2 x5_1 p176 q176
          cases e176
          replace p176 := eq_true p176
          replace q176 := eq_true q176
          have p177 : 0 ≤ (x5_1 : Int) := of_decide_eq_true am_
          have q177 : x5_1 < (t173.length : Int) := of_decide_eq_true am_
          obtain ⟨ad177, e177, hx177_0⟩ := Kd.zD (Kd.vW HO_1.out).2.2 x5_1 p177 q177
          cases e177
          replace p177 := eq_true p177
          replace q177 := eq_true q177
          have p178 : 0 ≤ (x5_1 : Int) := of_decide_eq_true am_
          have q178 : x5_1 < (t170.length : Int) := of_decide_eq_true am_
          obtain ⟨ad178, e178, hx178_0⟩ := Kd.zD (Kd.vW HO_0.out).2.2 x5_1 p178 q178
          obtain rfl : ad176 = ad178 := (by injection e178)
          replace p178 := eq_true p178
          replace q178 := eq_true q178
          have p179 : 0 ≤ (x5_1 : Int) := of_decide_eq_true am_
          have q179 : x5_1 < (t173.length : Int) := of_decide_eq_true am_
          obtain ⟨ad179, e179, hx179_0⟩ := Kd.zD (Kd.vW HO_1.out).2.2 x5_1 p179 q179
          obtain rfl : ad177 = ad179 := (by injection e179)
          replace p179 := eq_true p179
          replace q179 := eq_true q179
          go_wp2
          repeat (go_quiet (fail); try go_wp2)
          go_roundg k1
          case measure => have := HK1.out; omega
          case rel => exact ⟨(wrap64 (x5_1 - 1)), sd_, H', ⟨by have := HK1.out; omega⟩, ⟨(rV_ HO_0)⟩, ⟨(rV_ HO_1)⟩, ⟨(bb_ HB)⟩⟩
       ·
        rw [if_neg c13] at H
        exact absurd H (by simp)
      ·
       rw [if_neg c12] at H
       exact absurd H (by simp)
     ·
      rw [if_neg c11] at H
      exact absurd H (by simp)
    ·
     rw [if_neg c10] at H
     have c10b0 := decide_eq_false c10
     clear c10
     obtain rfl := Option.some.inj H
     go_wp2
     repeat (go_quiet (fail); try go_wp2)
     go_ret
     exact ⟨ew_, (bb_ HB)⟩
 ·
  rw [if_neg c5] at H
  have c5b0 := beq_eq_false_iff_ne.mpr c5
  have c5b1 := bne_iff_ne.mpr c5
  have c5b2 : (t170.length == t173.length) = false := by first | simpa using c5 | (simp at c5 ⊢; omega)
  by_cases c16 : (t170.length : Int) < (t173.length : Int)
  ·
   rw [if_pos c16] at H
   have c16b0 := decide_eq_true c16
   have c16b1 : decide (t170.length < t173.length) = true := decide_eq_true (Int.ofNat_lt.mp c16)
   clear c16
   obtain rfl := Option.some.inj H
   go_enter Try.func98, Try.ntmps98
   go_wp2_with (first | (go_at_call 110; (with_reducible refine (jQ.calls k (fun k_ => k_ < w.heap.size) _ _ l0 t170 _ ?side1 A3.out).mono ?_); (case side1 => exact Kd.V_mk HC0.out (Kd.zX (Kd.C_F (Kd.zQ .u64) HR0.out) (bb_ HB))); rintro e w17 ⟨v171, rfl, ho0, hb⟩; have HO172 := jA.mk (Kd.zq (Kd.zV (ok' := fun k_ => True) ho0 (fun k_ hk_ => trivial)) (jB (bb_ HB))); replace HB := bs_ HB hb) | (go_at_call 110; (with_reducible refine (jQ.calls k (fun k_ => k_ < w.heap.size) _ _ l1 t173 _ ?side1 A4.out).mono ?_); (case side1 => exact Kd.V_mk HC1.out (Kd.zX (Kd.C_F (Kd.zQ .u64) HR1.out) (bb_ HB))); rintro e w18 ⟨v174, rfl, ho0, hb⟩; replace HO172 := jA.mk (Kd.jAT (rV_ HO172) hb); have HO175 := jA.mk (Kd.zq (Kd.zV (ok' := fun k_ => True) ho0 (fun k_ hk_ => trivial)) (jB (bb_ HB))); replace HB := bs_ HB hb; obtain ⟨Ao19, co19, eo19⟩ := Kd.zT HO172.out; subst eo19; obtain ⟨Ao20, co20, eo20⟩ := Kd.zT HO175.out; subst eo20))
   repeat (go_quiet (first | (go_at_call 110; (with_reducible refine (jQ.calls k (fun k_ => k_ < w.heap.size) _ _ l0 t170 _ ?side1 A3.out).mono ?_); (case side1 => exact Kd.V_mk HC0.out (Kd.zX (Kd.C_F (Kd.zQ .u64) HR0.out) (bb_ HB))); rintro e w17 ⟨v171, rfl, ho0, hb⟩; have HO172 := jA.mk (Kd.zq (Kd.zV (ok' := fun k_ => True) ho0 (fun k_ hk_ => trivial)) (jB (bb_ HB))); replace HB := bs_ HB hb) | (go_at_call 110; (with_reducible refine (jQ.calls k (fun k_ => k_ < w.heap.size) _ _ l1 t173 _ ?side1 A4.out).mono ?_); (case side1 => exact Kd.V_mk HC1.out (Kd.zX (Kd.C_F (Kd.zQ .u64) HR1.out) (bb_ HB))); rintro e w18 ⟨v174, rfl, ho0, hb⟩; replace HO172 := jA.mk (Kd.jAT (rV_ HO172) hb); have HO175 := jA.mk (Kd.zq (Kd.zV (ok' := fun k_ => True) ho0 (fun k_ hk_ => trivial)) (jB (bb_ HB))); replace HB := bs_ HB hb; obtain ⟨Ao19, co19, eo19⟩ := Kd.zT HO172.out; subst eo19; obtain ⟨Ao20, co20, eo20⟩ := Kd.zT HO175.out; subst eo20)); try go_wp2_with (first | (go_at_call 110; (with_reducible refine (jQ.calls k (fun k_ => k_ < w.heap.size) _ _ l0 t170 _ ?side1 A3.out).mono ?_); (case side1 => exact Kd.V_mk HC0.out (Kd.zX (Kd.C_F (Kd.zQ .u64) HR0.out) (bb_ HB))); rintro e w17 ⟨v171, rfl, ho0, hb⟩; have HO172 := jA.mk (Kd.zq (Kd.zV (ok' := fun k_ => True) ho0 (fun k_ hk_ => trivial)) (jB (bb_ HB))); replace HB := bs_ HB hb) | (go_at_call 110; (with_reducible refine (jQ.calls k (fun k_ => k_ < w.heap.size) _ _ l1 t173 _ ?side1 A4.out).mono ?_); (case side1 => exact Kd.V_mk HC1.out (Kd.zX (Kd.C_F (Kd.zQ .u64) HR1.out) (bb_ HB))); rintro e w18 ⟨v174, rfl, ho0, hb⟩; replace HO172 := jA.mk (Kd.jAT (rV_ HO172) hb); have HO175 := jA.mk (Kd.zq (Kd.zV (ok' := fun k_ => True) ho0 (fun k_ hk_ => trivial)) (jB (bb_ HB))); replace HB := bs_ HB hb; obtain ⟨Ao19, co19, eo19⟩ := Kd.zT HO172.out; subst eo19; obtain ⟨Ao20, co20, eo20⟩ := Kd.zT HO175.out; subst eo20)))
   go_ret
   exact ⟨ew_, (bb_ HB)⟩
  ·
   rw [if_neg c16] at H
   have c16b0 := decide_eq_false c16
   have c16b1 : decide (t170.length < t173.length) = false := decide_eq_false (fun h => c16 (Int.ofNat_lt.mpr h))
   clear c16
   obtain rfl := Option.some.inj H
   go_enter Try.func98, Try.ntmps98
   go_wp2_with (first | (go_at_call 110; (with_reducible refine (jQ.calls k (fun k_ => k_ < w.heap.size) _ _ l0 t170 _ ?side1 A3.out).mono ?_); (case side1 => exact Kd.V_mk HC0.out (Kd.zX (Kd.C_F (Kd.zQ .u64) HR0.out) (bb_ HB))); rintro e w21 ⟨v171, rfl, ho0, hb⟩; have HO172 := jA.mk (Kd.zq (Kd.zV (ok' := fun k_ => True) ho0 (fun k_ hk_ => trivial)) (jB (bb_ HB))); replace HB := bs_ HB hb) | (go_at_call 110; (with_reducible refine (jQ.calls k (fun k_ => k_ < w.heap.size) _ _ l1 t173 _ ?side1 A4.out).mono ?_); (case side1 => exact Kd.V_mk HC1.out (Kd.zX (Kd.C_F (Kd.zQ .u64) HR1.out) (bb_ HB))); rintro e w22 ⟨v174, rfl, ho0, hb⟩; replace HO172 := jA.mk (Kd.jAT (rV_ HO172) hb); have HO175 := jA.mk (Kd.zq (Kd.zV (ok' := fun k_ => True) ho0 (fun k_ hk_ => trivial)) (jB (bb_ HB))); replace HB := bs_ HB hb; obtain ⟨Ao23, co23, eo23⟩ := Kd.zT HO172.out; subst eo23; obtain ⟨Ao24, co24, eo24⟩ := Kd.zT HO175.out; subst eo24))
   repeat (go_quiet (first | (go_at_call 110; (with_reducible refine (jQ.calls k (fun k_ => k_ < w.heap.size) _ _ l0 t170 _ ?side1 A3.out).mono ?_); (case side1 => exact Kd.V_mk HC0.out (Kd.zX (Kd.C_F (Kd.zQ .u64) HR0.out) (bb_ HB))); rintro e w21 ⟨v171, rfl, ho0, hb⟩; have HO172 := jA.mk (Kd.zq (Kd.zV (ok' := fun k_ => True) ho0 (fun k_ hk_ => trivial)) (jB (bb_ HB))); replace HB := bs_ HB hb) | (go_at_call 110; (with_reducible refine (jQ.calls k (fun k_ => k_ < w.heap.size) _ _ l1 t173 _ ?side1 A4.out).mono ?_); (case side1 => exact Kd.V_mk HC1.out (Kd.zX (Kd.C_F (Kd.zQ .u64) HR1.out) (bb_ HB))); rintro e w22 ⟨v174, rfl, ho0, hb⟩; replace HO172 := jA.mk (Kd.jAT (rV_ HO172) hb); have HO175 := jA.mk (Kd.zq (Kd.zV (ok' := fun k_ => True) ho0 (fun k_ hk_ => trivial)) (jB (bb_ HB))); replace HB := bs_ HB hb; obtain ⟨Ao23, co23, eo23⟩ := Kd.zT HO172.out; subst eo23; obtain ⟨Ao24, co24, eo24⟩ := Kd.zT HO175.out; subst eo24)); try go_wp2_with (first | (go_at_call 110; (with_reducible refine (jQ.calls k (fun k_ => k_ < w.heap.size) _ _ l0 t170 _ ?side1 A3.out).mono ?_); (case side1 => exact Kd.V_mk HC0.out (Kd.zX (Kd.C_F (Kd.zQ .u64) HR0.out) (bb_ HB))); rintro e w21 ⟨v171, rfl, ho0, hb⟩; have HO172 := jA.mk (Kd.zq (Kd.zV (ok' := fun k_ => True) ho0 (fun k_ hk_ => trivial)) (jB (bb_ HB))); replace HB := bs_ HB hb) | (go_at_call 110; (with_reducible refine (jQ.calls k (fun k_ => k_ < w.heap.size) _ _ l1 t173 _ ?side1 A4.out).mono ?_); (case side1 => exact Kd.V_mk HC1.out (Kd.zX (Kd.C_F (Kd.zQ .u64) HR1.out) (bb_ HB))); rintro e w22 ⟨v174, rfl, ho0, hb⟩; replace HO172 := jA.mk (Kd.jAT (rV_ HO172) hb); have HO175 := jA.mk (Kd.zq (Kd.zV (ok' := fun k_ => True) ho0 (fun k_ hk_ => trivial)) (jB (bb_ HB))); replace HB := bs_ HB hb; obtain ⟨Ao23, co23, eo23⟩ := Kd.zT HO172.out; subst eo23; obtain ⟨Ao24, co24, eo24⟩ := Kd.zT HO175.out; subst eo24)))
   go_ret
   exact ⟨ew_, (bb_ HB)⟩

end Go.Proofs.Ytijgeonhbmgikaa.POOctetGets
