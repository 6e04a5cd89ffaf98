-- printed (pr.py)
import Derived.Test.YtijgeonhbmgikaaPOOctetBackx0
import Derived.Test.YtijgeonhbmgikaaPOOctetBackx5
namespace Go.Proofs.Ytijgeonhbmgikaa.POOctetBack
open Go.RowKit Go.Proofs.YtijgeonhbmgikaaN Go.Proofs.YtijgeonhbmgikaaW.PrintWords Go.Proofs.YtijgeonhbmgikaaW.PrintLast Go.Proofs.YtijgeonhbmgikaaW.PrintMore
attribute [local go_sem] zW zU qC qA zF zD zV zT
set_option maxHeartbeats 8000000
set_option maxRecDepth 100000
set_option linter.unusedVariables false
set_option linter.unusedSimpArgs false

/-! ### jo: function 98 -/
def jo.l0 : Nat → List Int → List Int → Int → Option (Int)
 | 0, _, _, _ => none
 | k + 1, x0, x1, x5 => if x5 ≥ 0 then (if 0 ≤ x5 then (if x5 < (x0.length : Int) then (if x5 < (x1.length : Int) then (if (rd x0 x5) < (rd x1 x5) then (some (-1)) else (if (rd x0 x5) > (rd x1 x5) then (some 1) else (jo.l0 k x0 x1 (wrap64 (x5 - 1))))) else (none)) else (none)) else (none)) else (some 0)
def jo.f (k : Nat) (l0 : List Int) (l1 : List Int) : Option (Int) := (jG.f k l0).bind fun t158 => ((jG.f k l1).bind fun t161 => (if (t158.length : Int) = (t161.length : Int) then (jo.l0 k t158 t161 (wrap64 ((t158.length : Int) - 1))) else (if (t158.length : Int) < (t161.length : Int) then (some (-1)) else (some 1))))
theorem jo.vX : ∀ k, (∀ y0 y1 y2, LeO (jo.l0 k y0 y1 y2) (jo.l0 (k + 1) y0 y1 y2))
 | 0 => fun _ _ _ r h => by simp [jo.l0] at h
 | k + 1 => by
  have ih0 := jo.vX k
  ·
   intro y0 y1 y2
   unfold jo.l0
   repeat' first
   | (with_reducible exact ih0 _ _ _)
   | (with_reducible exact jG.mono _ _)
   | (with_reducible exact LeO.refl _)
   | (with_reducible exact LeO.none _)
   | (with_reducible refine LeO.ite ?_ ?_)
   | (with_reducible refine LeO.bind ?_ (fun _ => ?_))
theorem jo.mono : ∀ a0 a1 k, LeO (jo.f k a0 a1) (jo.f (k + 1) a0 a1) := by
 intro a0 a1 k
 have ih0 := jo.vX k
 unfold jo.f
 repeat' first
   | (with_reducible exact ih0 _ _ _)
   | (with_reducible exact jG.mono _ _)
   | (with_reducible exact LeO.refl _)
   | (with_reducible exact LeO.none _)
   | (with_reducible refine LeO.ite ?_ ?_)
   | (with_reducible refine LeO.bind ?_ (fun _ => ?_))
theorem jo.calls (k : Nat) (A0 : Option Addr) (c0 : Nat) (l0 : List Int) (A1 : Option Addr) (c1 : Nat) (l1 : List Int) (r : Int) (w : World) (hr0 : Kd.C (Kd.int .u64) w A0 l0.length l0) (hc0 : l0.length ≤ c0) (hr1 : Kd.C (Kd.int .u64) w A1 l1.length l1) (hc1 : l1.length ≤ c1) (h : jo.f k l0 l1 = some r) :
  Calls Try.prog 98 #[.slice A0 l0.length c0, .slice A1 l1.length c1] w fun e w' => e = .returned (.int .i64 r) ∧ Below w.heap.size w w' := by
 have HR0 := jA.mk hr0
 have HC0 := jA.mk hc0
 clear hr0 hc0
 have HR1 := jA.mk hr1
 have HC1 := jA.mk hc1
 clear hr1 hc1
 have HB := jA.mk (Below.refl w.heap.size w)
 have H : ((jG.f k l0).bind fun t158 => ((jG.f k l1).bind fun t161 => (if (t158.length : Int) = (t161.length : Int) then (jo.l0 k t158 t161 (wrap64 ((t158.length : Int) - 1))) else (if (t158.length : Int) < (t161.length : Int) then (some (-1)) else (some 1))))) = some r := h
 clear h
 replace H := ob_ H
 obtain ⟨t158, A30, H⟩ := H
 try dsimp only at H
 have A3 := jA.mk A30
 clear A30
 replace H := ob_ H
 obtain ⟨t161, A40, H⟩ := H
 try dsimp only at H
 have A4 := jA.mk A40
 clear A40
 by_cases c5 : (t158.length : Int) = (t161.length : Int)
 ·
  rw [if_pos c5] at H
  have c5b0 := beq_iff_eq.mpr c5
  have c5b1 := bne_eq_false_iff_eq.mpr c5
  have c5b2 : (t158.length == t161.length) = true := by first | simpa using c5 | (simp at c5 ⊢; omega)
  clear c5
  have H' := jA.mk H
  clear H
  go_enter Try.func98, Try.ntmps98
  go_wp2_with (first | (go_at_call 110; (with_reducible refine (jG.calls k (fun k_ => k_ < w.heap.size) _ _ l0 t158 _ ?side1 A3.out).mono ?_); (case side1 => exact Kd.V_mk HC0.out (Kd.zC (Kd.C_F (Kd.vS .u64) HR0.out) (bb_ HB))); rintro e w6 ⟨v159, rfl, ho0, hb⟩; have HO160 := jA.mk (Kd.zK (Kd.zH (ok' := fun k_ => True) ho0 (fun k_ hk_ => trivial)) (jB (bb_ HB))); replace HB := bs_ HB hb) | (go_at_call 110; (with_reducible refine (jG.calls k (fun k_ => k_ < w.heap.size) _ _ l1 t161 _ ?side1 A4.out).mono ?_); (case side1 => exact Kd.V_mk HC1.out (Kd.zC (Kd.C_F (Kd.vS .u64) HR1.out) (bb_ HB))); rintro e w7 ⟨v162, rfl, ho0, hb⟩; replace HO160 := jA.mk (Kd.qc (rV_ HO160) hb); have HO163 := jA.mk (Kd.zK (Kd.zH (ok' := fun k_ => True) ho0 (fun k_ hk_ => trivial)) (jB (bb_ HB))); replace HB := bs_ HB hb; obtain ⟨Ao8, co8, eo8⟩ := Kd.vZ HO160.out; subst eo8; obtain ⟨Ao9, co9, eo9⟩ := Kd.vZ HO163.out; subst eo9))
  repeat (go_quiet (first | (go_at_call 110; (with_reducible refine (jG.calls k (fun k_ => k_ < w.heap.size) _ _ l0 t158 _ ?side1 A3.out).mono ?_); (case side1 => exact Kd.V_mk HC0.out (Kd.zC (Kd.C_F (Kd.vS .u64) HR0.out) (bb_ HB))); rintro e w6 ⟨v159, rfl, ho0, hb⟩; have HO160 := jA.mk (Kd.zK (Kd.zH (ok' := fun k_ => True) ho0 (fun k_ hk_ => trivial)) (jB (bb_ HB))); replace HB := bs_ HB hb) | (go_at_call 110; (with_reducible refine (jG.calls k (fun k_ => k_ < w.heap.size) _ _ l1 t161 _ ?side1 A4.out).mono ?_); (case side1 => exact Kd.V_mk HC1.out (Kd.zC (Kd.C_F (Kd.vS .u64) HR1.out) (bb_ HB))); rintro e w7 ⟨v162, rfl, ho0, hb⟩; replace HO160 := jA.mk (Kd.qc (rV_ HO160) hb); have HO163 := jA.mk (Kd.zK (Kd.zH (ok' := fun k_ => True) ho0 (fun k_ hk_ => trivial)) (jB (bb_ HB))); replace HB := bs_ HB hb; obtain ⟨Ao8, co8, eo8⟩ := Kd.vZ HO160.out; subst eo8; obtain ⟨Ao9, co9, eo9⟩ := Kd.vZ HO163.out; subst eo9)); try go_wp2_with (first | (go_at_call 110; (with_reducible refine (jG.calls k (fun k_ => k_ < w.heap.size) _ _ l0 t158 _ ?side1 A3.out).mono ?_); (case side1 => exact Kd.V_mk HC0.out (Kd.zC (Kd.C_F (Kd.vS .u64) HR0.out) (bb_ HB))); rintro e w6 ⟨v159, rfl, ho0, hb⟩; have HO160 := jA.mk (Kd.zK (Kd.zH (ok' := fun k_ => True) ho0 (fun k_ hk_ => trivial)) (jB (bb_ HB))); replace HB := bs_ HB hb) | (go_at_call 110; (with_reducible refine (jG.calls k (fun k_ => k_ < w.heap.size) _ _ l1 t161 _ ?side1 A4.out).mono ?_); (case side1 => exact Kd.V_mk HC1.out (Kd.zC (Kd.C_F (Kd.vS .u64) HR1.out) (bb_ HB))); rintro e w7 ⟨v162, rfl, ho0, hb⟩; replace HO160 := jA.mk (Kd.qc (rV_ HO160) hb); have HO163 := jA.mk (Kd.zK (Kd.zH (ok' := fun k_ => True) ho0 (fun k_ hk_ => trivial)) (jB (bb_ HB))); replace HB := bs_ HB hb; obtain ⟨Ao8, co8, eo8⟩ := Kd.vZ HO160.out; subst eo8; obtain ⟨Ao9, co9, eo9⟩ := Kd.vZ HO163.out; subst eo9)))
  go_loopg [5] k (fun kq v5 w' => ∃ (x5_1 : Int), v5 = .int .i64 x5_1 ∧ jA (jo.l0 kq t158 t161 x5_1 = some r) ∧ jA (kq ≤ k) ∧ jA (Kd.V (Kd.int .u64) 22 w' w.heap.size (fun _ => True) (.slice Ao8 t158.length co8) t158) ∧ jA (Kd.V (Kd.int .u64) 22 w' w.heap.size (fun _ => True) (.slice Ao9 t161.length co9) t161) ∧ jA (Below w.heap.size w w'))
  case atStart => exact ⟨(wrap64 ((t158.length : Int) - 1)), sd_, H', ⟨Nat.le_refl _⟩, ⟨(rV_ HO160)⟩, ⟨(rV_ HO163)⟩, ⟨(bb_ HB)⟩⟩
  case round =>
   clear H'
   try clear c1
   try clear p2
   try clear c5
   try clear c5b0
   try clear c5b1
   try clear c5b2
   try clear p6
   try clear c9
   obtain ⟨x5_1, rfl, HA, HK1, HO_0, HO_1, HB⟩ := hrel
   cases gk with
   | zero => exact absurd HA.out (by simp [jo.l0])
   | succ k1 =>
    have H := HA.out
    clear HA
    simp only [jo.l0] at H
    by_cases c10 : x5_1 ≥ 0
    ·
     rw [if_pos c10] at H
     have c10b0 := decide_eq_true c10
     clear c10
     by_cases c11 : 0 ≤ x5_1
     ·
      rw [if_pos c11] at H
      have c11b0 := decide_eq_true c11
      clear c11
      by_cases c12 : x5_1 < (t158.length : Int)
      ·
       rw [if_pos c12] at H
       have c12b0 := decide_eq_true c12
       clear c12
       by_cases c13 : x5_1 < (t161.length : Int)
       ·
        rw [if_pos c13] at H
        have c13b0 := decide_eq_true c13
        clear c13
        by_cases c14 : (rd t158 x5_1) < (rd t161 x5_1)
        ·
         rw [if_pos c14] at H
         have c14b0 := decide_eq_true c14
         clear c14
         obtain rfl := Option.some.inj H
         have p164 : 0 ≤ (x5_1 : Int) := of_decide_eq_true am_
         have q164 : x5_1 < (t158.length : Int) := of_decide_eq_true am_
         obtain ⟨ad164, e164, hx164_0⟩ := Kd.vY (Kd.vT HO_0.out).2.2 x5_1 p164 q164
         cases e164
         replace p164 := eq_true p164
         replace q164 := eq_true q164
         have p165 : 0 ≤ (x5_1 : Int) := of_decide_eq_true am_
         have q165 : x5_1 < (t161.length : Int) := of_decide_eq_true am_
         obtain ⟨ad165, e165, hx165_0⟩ := Kd.vY (Kd.vT HO_1.out).2.2 x5_1 p165 q165
         cases e165
         replace p165 := eq_true p165
         replace q165 := eq_true q165
         go_wp2
         repeat (go_quiet (fail); try go_wp2)
         go_ret
         exact ⟨ew_, (bb_ HB)⟩
        ·
         rw [if_neg c14] at H
         have c14b0 := decide_eq_false c14
         clear c14
         by_cases c15 : (rd t158 x5_1) > (rd t161 x5_1)
         ·
          rw [if_pos c15] at H
          have c15b0 := decide_eq_true c15
          clear c15
          obtain rfl := Option.some.inj H
          have p164 : 0 ≤ (x5_1 : Int) := of_decide_eq_true am_
          have q164 : x5_1 < (t158.length : Int) := of_decide_eq_true am_
          obtain ⟨ad164, e164, hx164_0⟩ := Kd.vY (Kd.vT HO_0.out).2.2 x5_1 p164 q164
          cases e164
          replace p164 := eq_true p164
          replace q164 := eq_true q164
          have p165 : 0 ≤ (x5_1 : Int) := of_decide_eq_true am_
          have q165 : x5_1 < (t161.length : Int) := of_decide_eq_true am_
          obtain ⟨ad165, e165, hx165_0⟩ := Kd.vY (Kd.vT HO_1.out).2.2 x5_1 p165 q165
          cases e165
          replace p165 := eq_true p165
          replace q165 := eq_true q165
          have p166 : 0 ≤ (x5_1 : Int) := of_decide_eq_true am_
          have q166 : x5_1 < (t158.length : Int) := of_decide_eq_true am_
          obtain ⟨ad166, e166, hx166_0⟩ := Kd.vY (Kd.vT HO_0.out).2.2 x5_1 p166 q166
          obtain rfl : ad164 = ad166 := (by injection e166)
          replace p166 := eq_true p166
          replace q166 := eq_true q166
          have p167 : 0 ≤ (x5_1 : Int) := of_decide_eq_true am_
          have q167 : x5_1 < (t161.length : Int) := of_decide_eq_true am_
          obtain ⟨ad167, e167, hx167_0⟩ := Kd.vY (Kd.vT HO_1.out).2.2 x5_1 p167 q167
          obtain rfl : ad165 = ad167 := (by injection e167)
          replace p167 := eq_true p167
          replace q167 := eq_true q167
          go_wp2
          repeat (go_quiet (fail); try go_wp2)
          go_ret
          exact ⟨ew_, (bb_ HB)⟩
         ·
          rw [if_neg c15] at H
          have c15b0 := decide_eq_false c15
          clear c15
          have H' := jA.mk H
          clear H
          have p164 : 0 ≤ (x5_1 : Int) := of_decide_eq_true am_
          have q164 : x5_1 < (t158.length : Int) := of_decide_eq_true am_
          obtain ⟨ad164, e164, hx164_0⟩ := Kd.vY (Kd.vT HO_0.out).2.2 x5_1 p164 q164
          cases e164
          replace p164 := eq_true p164
          replace q164 := eq_true q164
          have p165 : 0 ≤ (x5_1 : Int) := of_decide_eq_true am_
          have q165 : x5_1 < (t161.length : Int) := of_decide_eq_true am_
          obtain ⟨ad165, e165, hx165_0⟩ := Kd.vY (Kd.vT HO_1.out).2.2 x5_1 p165 q165
          cases e165
          replace p165 := eq_true p165
          replace q165 := eq_true q165
          have p166 : 0 ≤ (x5_1 : Int) := of_decide_eq_true am_
          have q166 : x5_1 < (t158.length : Int) := of_decide_eq_true am_
          obtain ⟨ad166, e166, hx166_0⟩ := Kd.vY (Kd.vT HO_0.out).2.2 x5_1 p166 q166
          obtain rfl : ad164 = ad166 := (by injection e166)
          replace p166 := eq_true p166
          replace q166 := eq_true q166
          have p167 : 0 ≤ (x5_1 : Int) := of_decide_eq_true am_
          have q167 : x5_1 < (t161.length : Int) := of_decide_eq_true am_
          obtain ⟨ad167, e167, hx167_0⟩ := Kd.vY (Kd.vT HO_1.out).2.2 x5_1 p167 q167
          obtain rfl : ad165 = ad167 := (by injection e167)
          replace p167 := eq_true p167
          replace q167 := eq_true q167
          go_wp2
          repeat (go_quiet (fail); try go_wp2)
          go_roundg k1
          case measure => have := HK1.out; omega
          case rel => exact ⟨(wrap64 (x5_1 - 1)), sd_, H', ⟨by have := HK1.out; omega⟩, ⟨(rV_ HO_0)⟩, ⟨(rV_ HO_1)⟩, ⟨(bb_ HB)⟩⟩
       ·
        rw [if_neg c13] at H
        exact absurd H (by simp)
      ·
       rw [if_neg c12] at H
       exact absurd H (by simp)
     ·
      rw [if_neg c11] at H
      exact absurd H (by simp)
    ·
     rw [if_neg c10] at H
     have c10b0 := decide_eq_false c10
     clear c10
     obtain rfl := Option.some.inj H
     go_wp2
     repeat (go_quiet (fail); try go_wp2)
     go_ret
     exact ⟨ew_, (bb_ HB)⟩
 ·
  rw [if_neg c5] at H
  have c5b0 := beq_eq_false_iff_ne.mpr c5
  have c5b1 := bne_iff_ne.mpr c5
  have c5b2 : (t158.length == t161.length) = false := by first | simpa using c5 | (simp at c5 ⊢; omega)
  by_cases c16 : (t158.length : Int) < (t161.length : Int)
  ·
   rw [if_pos c16] at H
   have c16b0 := decide_eq_true c16
   have c16b1 : decide (t158.length < t161.length) = true := decide_eq_true (Int.ofNat_lt.mp c16)
   clear c16
   obtain rfl := Option.some.inj H
   go_enter Try.func98, Try.ntmps98
   go_wp2_with (first | (go_at_call 110; (with_reducible refine (jG.calls k (fun k_ => k_ < w.heap.size) _ _ l0 t158 _ ?side1 A3.out).mono ?_); (case side1 => exact Kd.V_mk HC0.out (Kd.zC (Kd.C_F (Kd.vS .u64) HR0.out) (bb_ HB))); rintro e w17 ⟨v159, rfl, ho0, hb⟩; have HO160 := jA.mk (Kd.zK (Kd.zH (ok' := fun k_ => True) ho0 (fun k_ hk_ => trivial)) (jB (bb_ HB))); replace HB := bs_ HB hb) | (go_at_call 110; (with_reducible refine (jG.calls k (fun k_ => k_ < w.heap.size) _ _ l1 t161 _ ?side1 A4.out).mono ?_); (case side1 => exact Kd.V_mk HC1.out (Kd.zC (Kd.C_F (Kd.vS .u64) HR1.out) (bb_ HB))); rintro e w18 ⟨v162, rfl, ho0, hb⟩; replace HO160 := jA.mk (Kd.qc (rV_ HO160) hb); have HO163 := jA.mk (Kd.zK (Kd.zH (ok' := fun k_ => True) ho0 (fun k_ hk_ => trivial)) (jB (bb_ HB))); replace HB := bs_ HB hb; obtain ⟨Ao19, co19, eo19⟩ := Kd.vZ HO160.out; subst eo19; obtain ⟨Ao20, co20, eo20⟩ := Kd.vZ HO163.out; subst eo20))
   repeat (go_quiet (first | (go_at_call 110; (with_reducible refine (jG.calls k (fun k_ => k_ < w.heap.size) _ _ l0 t158 _ ?side1 A3.out).mono ?_); (case side1 => exact Kd.V_mk HC0.out (Kd.zC (Kd.C_F (Kd.vS .u64) HR0.out) (bb_ HB))); rintro e w17 ⟨v159, rfl, ho0, hb⟩; have HO160 := jA.mk (Kd.zK (Kd.zH (ok' := fun k_ => True) ho0 (fun k_ hk_ => trivial)) (jB (bb_ HB))); replace HB := bs_ HB hb) | (go_at_call 110; (with_reducible refine (jG.calls k (fun k_ => k_ < w.heap.size) _ _ l1 t161 _ ?side1 A4.out).mono ?_); (case side1 => exact Kd.V_mk HC1.out (Kd.zC (Kd.C_F (Kd.vS .u64) HR1.out) (bb_ HB))); rintro e w18 ⟨v162, rfl, ho0, hb⟩; replace HO160 := jA.mk (Kd.qc (rV_ HO160) hb); have HO163 := jA.mk (Kd.zK (Kd.zH (ok' := fun k_ => True) ho0 (fun k_ hk_ => trivial)) (jB (bb_ HB))); replace HB := bs_ HB hb; obtain ⟨Ao19, co19, eo19⟩ := Kd.vZ HO160.out; subst eo19; obtain ⟨Ao20, co20, eo20⟩ := Kd.vZ HO163.out; subst eo20)); try go_wp2_with (first | (go_at_call 110; (with_reducible refine (jG.calls k (fun k_ => k_ < w.heap.size) _ _ l0 t158 _ ?side1 A3.out).mono ?_); (case side1 => exact Kd.V_mk HC0.out (Kd.zC (Kd.C_F (Kd.vS .u64) HR0.out) (bb_ HB))); rintro e w17 ⟨v159, rfl, ho0, hb⟩; have HO160 := jA.mk (Kd.zK (Kd.zH (ok' := fun k_ => True) ho0 (fun k_ hk_ => trivial)) (jB (bb_ HB))); replace HB := bs_ HB hb) | (go_at_call 110; (with_reducible refine (jG.calls k (fun k_ => k_ < w.heap.size) _ _ l1 t161 _ ?side1 A4.out).mono ?_); (case side1 => exact Kd.V_mk HC1.out (Kd.zC (Kd.C_F (Kd.vS .u64) HR1.out) (bb_ HB))); rintro e w18 ⟨v162, rfl, ho0, hb⟩; replace HO160 := jA.mk (Kd.qc (rV_ HO160) hb); have HO163 := jA.mk (Kd.zK (Kd.zH (ok' := fun k_ => True) ho0 (fun k_ hk_ => trivial)) (jB (bb_ HB))); replace HB := bs_ HB hb; obtain ⟨Ao19, co19, eo19⟩ := Kd.vZ HO160.out; subst eo19; obtain ⟨Ao20, co20, eo20⟩ := Kd.vZ HO163.out; subst eo20)))
   go_ret
   exact ⟨ew_, (bb_ HB)⟩
  ·
   rw [if_neg c16] at H
   have c16b0 := decide_eq_false c16
   have c16b1 : decide (t158.length < t161.length) = false := decide_eq_false (fun h => c16 (Int.ofNat_lt.mpr h))
   clear c16
   obtain rfl := Option.some.inj H
   go_enter Try.func98, Try.ntmps98
   go_wp2_with (first | (go_at_call 110; (with_reducible refine (jG.calls k (fun k_ => k_ < w.heap.size) _ _ l0 t158 _ ?side1 A3.out).mono ?_); (case side1 => exact Kd.V_mk HC0.out (Kd.zC (Kd.C_F (Kd.vS .u64) HR0.out) (bb_ HB))); rintro e w21 ⟨v159, rfl, ho0, hb⟩; have HO160 := jA.mk (Kd.zK (Kd.zH (ok' := fun k_ => True) ho0 (fun k_ hk_ => trivial)) (jB (bb_ HB))); replace HB := bs_ HB hb) | (go_at_call 110; (with_reducible refine (jG.calls k (fun k_ => k_ < w.heap.size) _ _ l1 t161 _ ?side1 A4.out).mono ?_); (case side1 => exact Kd.V_mk HC1.out (Kd.zC (Kd.C_F (Kd.vS .u64) HR1.out) (bb_ HB))); rintro e w22 ⟨v162, rfl, ho0, hb⟩; replace HO160 := jA.mk (Kd.qc (rV_ HO160) hb); have HO163 := jA.mk (Kd.zK (Kd.zH (ok' := fun k_ => True) ho0 (fun k_ hk_ => trivial)) (jB (bb_ HB))); replace HB := bs_ HB hb; obtain ⟨Ao23, co23, eo23⟩ := Kd.vZ HO160.out; subst eo23; obtain ⟨Ao24, co24, eo24⟩ := Kd.vZ HO163.out; subst eo24))
   repeat (go_quiet (first | (go_at_call 110; (with_reducible refine (jG.calls k (fun k_ => k_ < w.heap.size) _ _ l0 t158 _ ?side1 A3.out).mono ?_); (case side1 => exact Kd.V_mk HC0.out (Kd.zC (Kd.C_F (Kd.vS .u64) HR0.out) (bb_ HB))); rintro e w21 ⟨v159, rfl, ho0, hb⟩; have HO160 := jA.mk (Kd.zK (Kd.zH (ok' := fun k_ => True) ho0 (fun k_ hk_ => trivial)) (jB (bb_ HB))); replace HB := bs_ HB hb) | (go_at_call 110; (with_reducible refine (jG.calls k (fun k_ => k_ < w.heap.size) _ _ l1 t161 _ ?side1 A4.out).mono ?_); (case side1 => exact Kd.V_mk HC1.out (Kd.zC (Kd.C_F (Kd.vS .u64) HR1.out) (bb_ HB))); rintro e w22 ⟨v162, rfl, ho0, hb⟩; replace HO160 := jA.mk (Kd.qc (rV_ HO160) hb); have HO163 := jA.mk (Kd.zK (Kd.zH (ok' := fun k_ => True) ho0 (fun k_ hk_ => trivial)) (jB (bb_ HB))); replace HB := bs_ HB hb; obtain ⟨Ao23, co23, eo23⟩ := Kd.vZ HO160.out; subst eo23; obtain ⟨Ao24, co24, eo24⟩ := Kd.vZ HO163.out; subst eo24)); try go_wp2_with (first | (go_at_call 110; (with_reducible refine (jG.calls k (fun k_ => k_ < w.heap.size) _ _ l0 t158 _ ?side1 A3.out).mono ?_); (case side1 => exact Kd.V_mk HC0.out (Kd.zC (Kd.C_F (Kd.vS .u64) HR0.out) (bb_ HB))); rintro e w21 ⟨v159, rfl, ho0, hb⟩; have HO160 := jA.mk (Kd.zK (Kd.zH (ok' := fun k_ => True) ho0 (fun k_ hk_ => trivial)) (jB (bb_ HB))); replace HB := bs_ HB hb) | (go_at_call 110; (with_reducible refine (jG.calls k (fun k_ => k_ < w.heap.size) _ _ l1 t161 _ ?side1 A4.out).mono ?_); (case side1 => exact Kd.V_mk HC1.out (Kd.zC (Kd.C_F (Kd.vS .u64) HR1.out) (bb_ HB))); rintro e w22 ⟨v162, rfl, ho0, hb⟩; replace HO160 := jA.mk (Kd.qc (rV_ HO160) hb); have HO163 := jA.mk (Kd.zK (Kd.zH (ok' := fun k_ => True) ho0 (fun k_ hk_ => trivial)) (jB (bb_ HB))); replace HB := bs_ HB hb; obtain ⟨Ao23, co23, eo23⟩ := Kd.vZ HO160.out; subst eo23; obtain ⟨Ao24, co24, eo24⟩ := Kd.vZ HO163.out; subst eo24)))
   go_ret
   exact ⟨ew_, (bb_ HB)⟩

end Go.Proofs.Ytijgeonhbmgikaa.POOctetBack
