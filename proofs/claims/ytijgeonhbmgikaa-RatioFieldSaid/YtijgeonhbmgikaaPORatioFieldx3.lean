-- printed (pr.py)
import Derived.Test.YtijgeonhbmgikaaPORatioFieldx1
namespace Go.Proofs.Ytijgeonhbmgikaa.PORatioField
open Go.RowKit Go.Proofs.YtijgeonhbmgikaaN Go.Proofs.YtijgeonhbmgikaaW.PrintWords Go.Proofs.YtijgeonhbmgikaaW.PrintLast Go.Proofs.YtijgeonhbmgikaaW.PrintMore
attribute [local go_sem] qH qF qg qd zq zo qG qE
set_option maxHeartbeats 8000000
set_option maxRecDepth 100000
set_option linter.unusedVariables false
set_option linter.unusedSimpArgs false
def vN.l0 : Nat → List Int → List Int → Int → Option (Int)
 | 0, _, _, _ => none
 | k + 1, x0, x1, x5 => if x5 ≥ 0 then (if 0 ≤ x5 then (if x5 < (x0.length : Int) then (if x5 < (x1.length : Int) then (if (rd x0 x5) < (rd x1 x5) then (some (-1)) else (if (rd x0 x5) > (rd x1 x5) then (some 1) else (vN.l0 k x0 x1 (wrap64 (x5 - 1))))) else (none)) else (none)) else (none)) else (some 0)
def vN.f (k : Nat) (l0 : List Int) (l1 : List Int) : Option (Int) := (jQ.f k l0).bind fun t138 => ((jQ.f k l1).bind fun t141 => (if (t138.length : Int) = (t141.length : Int) then (vN.l0 k t138 t141 (wrap64 ((t138.length : Int) - 1))) else (if (t138.length : Int) < (t141.length : Int) then (some (-1)) else (some 1))))
theorem vN.vS : ∀ k, (∀ y0 y1 y2, LeO (vN.l0 k y0 y1 y2) (vN.l0 (k + 1) y0 y1 y2))
 | 0 => fun _ _ _ r h => by simp [vN.l0] at h
 | k + 1 => by
  have ih0 := vN.vS k
  ·
   intro y0 y1 y2
   unfold vN.l0
   repeat' first
   | (with_reducible exact ih0 _ _ _)
   | (with_reducible exact jQ.mono _ _)
   | (with_reducible exact LeO.refl _)
   | (with_reducible exact LeO.none _)
   | (with_reducible refine LeO.ite ?_ ?_)
   | (with_reducible refine LeO.bind ?_ (fun _ => ?_))
theorem vN.mono : ∀ a0 a1 k, LeO (vN.f k a0 a1) (vN.f (k + 1) a0 a1) := by
 intro a0 a1 k
 have ih0 := vN.vS k
 unfold vN.f
 repeat' first
   | (with_reducible exact ih0 _ _ _)
   | (with_reducible exact jQ.mono _ _)
   | (with_reducible exact LeO.refl _)
   | (with_reducible exact LeO.none _)
   | (with_reducible refine LeO.ite ?_ ?_)
   | (with_reducible refine LeO.bind ?_ (fun _ => ?_))
theorem vN.calls (k : Nat) (A0 : Option Addr) (c0 : Nat) (l0 : List Int) (A1 : Option Addr) (c1 : Nat) (l1 : List Int) (r : Int) (w : World) (hr0 : Kd.C (Kd.int .u64) w A0 l0.length l0) (hc0 : l0.length ≤ c0) (hr1 : Kd.C (Kd.int .u64) w A1 l1.length l1) (hc1 : l1.length ≤ c1) (h : vN.f k l0 l1 = some r) :
  Calls Try.prog 98 #[.slice A0 l0.length c0, .slice A1 l1.length c1] w fun e w' => e = .returned (.int .i64 r) ∧ Below w.heap.size w w' := by
 have HR0 := jA.mk hr0
 have HC0 := jA.mk hc0
 clear hr0 hc0
 have HR1 := jA.mk hr1
 have HC1 := jA.mk hc1
 clear hr1 hc1
 have HB := jA.mk (Below.refl w.heap.size w)
 have H : ((jQ.f k l0).bind fun t138 => ((jQ.f k l1).bind fun t141 => (if (t138.length : Int) = (t141.length : Int) then (vN.l0 k t138 t141 (wrap64 ((t138.length : Int) - 1))) else (if (t138.length : Int) < (t141.length : Int) then (some (-1)) else (some 1))))) = some r := h
 clear h
 obtain ⟨t138, A3, H⟩ := oc_ H
 try dsimp only at H
 obtain ⟨t141, A4, H⟩ := oc_ H
 try dsimp only at H
 by_cases c5 : (t138.length : Int) = (t141.length : Int)
 ·
  rw [if_pos c5] at H
  have c5b0 := beq_iff_eq.mpr c5
  have c5b1 := bne_eq_false_iff_eq.mpr c5
  have c5b2 : (t138.length == t141.length) = true := by first | simpa using c5 | (simp at c5 ⊢; omega)
  clear c5
  have H' := jA.mk H
  clear H
  go_enter Try.func98, Try.ntmps98
  go_wp2_with (first | (go_at_call 110; (with_reducible refine (jQ.calls k (fun k_ => k_ < w.heap.size) _ _ l0 t138 _ ?side1 A3.out).mono ?_); (case side1 => exact Kd.V_mk HC0.out (Kd.zk (Kd.C_F (Kd.zH .u64) HR0.out) (bb_ HB))); rintro e w6 ⟨v139, rfl, ho0, hb⟩; have HO140 := jA.mk (Kd.zh (Kd.vZ (ok' := fun k_ => True) ho0 (fun k_ hk_ => trivial)) (jC (bb_ HB))); replace HB := bs_ HB hb) | (go_at_call 110; (with_reducible refine (jQ.calls k (fun k_ => k_ < w.heap.size) _ _ l1 t141 _ ?side1 A4.out).mono ?_); (case side1 => exact Kd.V_mk HC1.out (Kd.zk (Kd.C_F (Kd.zH .u64) HR1.out) (bb_ HB))); rintro e w7 ⟨v142, rfl, ho0, hb⟩; replace HO140 := jA.mk (Kd.qy (rV_ HO140) hb); have HO143 := jA.mk (Kd.zh (Kd.vZ (ok' := fun k_ => True) ho0 (fun k_ hk_ => trivial)) (jC (bb_ HB))); replace HB := bs_ HB hb; obtain ⟨Ao8, co8, rfl⟩ := Kd.zR HO140.out; obtain ⟨Ao9, co9, rfl⟩ := Kd.zR HO143.out))
  repeat (go_quiet (first | (go_at_call 110; (with_reducible refine (jQ.calls k (fun k_ => k_ < w.heap.size) _ _ l0 t138 _ ?side1 A3.out).mono ?_); (case side1 => exact Kd.V_mk HC0.out (Kd.zk (Kd.C_F (Kd.zH .u64) HR0.out) (bb_ HB))); rintro e w6 ⟨v139, rfl, ho0, hb⟩; have HO140 := jA.mk (Kd.zh (Kd.vZ (ok' := fun k_ => True) ho0 (fun k_ hk_ => trivial)) (jC (bb_ HB))); replace HB := bs_ HB hb) | (go_at_call 110; (with_reducible refine (jQ.calls k (fun k_ => k_ < w.heap.size) _ _ l1 t141 _ ?side1 A4.out).mono ?_); (case side1 => exact Kd.V_mk HC1.out (Kd.zk (Kd.C_F (Kd.zH .u64) HR1.out) (bb_ HB))); rintro e w7 ⟨v142, rfl, ho0, hb⟩; replace HO140 := jA.mk (Kd.qy (rV_ HO140) hb); have HO143 := jA.mk (Kd.zh (Kd.vZ (ok' := fun k_ => True) ho0 (fun k_ hk_ => trivial)) (jC (bb_ HB))); replace HB := bs_ HB hb; obtain ⟨Ao8, co8, rfl⟩ := Kd.zR HO140.out; obtain ⟨Ao9, co9, rfl⟩ := Kd.zR HO143.out)); try go_wp2_with (first | (go_at_call 110; (with_reducible refine (jQ.calls k (fun k_ => k_ < w.heap.size) _ _ l0 t138 _ ?side1 A3.out).mono ?_); (case side1 => exact Kd.V_mk HC0.out (Kd.zk (Kd.C_F (Kd.zH .u64) HR0.out) (bb_ HB))); rintro e w6 ⟨v139, rfl, ho0, hb⟩; have HO140 := jA.mk (Kd.zh (Kd.vZ (ok' := fun k_ => True) ho0 (fun k_ hk_ => trivial)) (jC (bb_ HB))); replace HB := bs_ HB hb) | (go_at_call 110; (with_reducible refine (jQ.calls k (fun k_ => k_ < w.heap.size) _ _ l1 t141 _ ?side1 A4.out).mono ?_); (case side1 => exact Kd.V_mk HC1.out (Kd.zk (Kd.C_F (Kd.zH .u64) HR1.out) (bb_ HB))); rintro e w7 ⟨v142, rfl, ho0, hb⟩; replace HO140 := jA.mk (Kd.qy (rV_ HO140) hb); have HO143 := jA.mk (Kd.zh (Kd.vZ (ok' := fun k_ => True) ho0 (fun k_ hk_ => trivial)) (jC (bb_ HB))); replace HB := bs_ HB hb; obtain ⟨Ao8, co8, rfl⟩ := Kd.zR HO140.out; obtain ⟨Ao9, co9, rfl⟩ := Kd.zR HO143.out)))
  go_loopg [5] k (fun kq v5 w' => ∃ (x5_1 : Int), v5 = .int .i64 x5_1 ∧ jA (vN.l0 kq t138 t141 x5_1 = some r) ∧ jA (kq ≤ k) ∧ jA (Kd.V (Kd.int .u64) 22 w' w.heap.size (fun _ => True) (.slice Ao8 t138.length co8) t138) ∧ jA (Kd.V (Kd.int .u64) 22 w' w.heap.size (fun _ => True) (.slice Ao9 t141.length co9) t141) ∧ jA (Below w.heap.size w w'))
  case atStart => exact ⟨(wrap64 ((t138.length : Int) - 1)), sd_, H', ⟨Nat.le_refl _⟩, ⟨(rV_ HO140)⟩, ⟨(rV_ HO143)⟩, ⟨(bb_ HB)⟩⟩
  case round =>
   clear H'
   try clear c1
   try clear p2
   try clear c5
   try clear c5b0
   try clear c5b1
   try clear c5b2
   try clear p6
   try clear c9
   obtain ⟨x5_1, rfl, HA, HK1, HO_0, HO_1, HB⟩ := hrel
   cases gk with
   | zero => exact absurd HA.out (by simp [vN.l0])
   | succ k1 =>
    have H := HA.out
    clear HA
    simp only [vN.l0] at H
    by_cases c10 : x5_1 ≥ 0
    ·
     rw [if_pos c10] at H
     have c10b0 := decide_eq_true c10
     clear c10
     by_cases c11 : 0 ≤ x5_1
     ·
      rw [if_pos c11] at H
      have c11b0 := decide_eq_true c11
      clear c11
      by_cases c12 : x5_1 < (t138.length : Int)
      ·
       rw [if_pos c12] at H
       have c12b0 := decide_eq_true c12
       clear c12
       by_cases c13 : x5_1 < (t141.length : Int)
       ·
        rw [if_pos c13] at H
        have c13b0 := decide_eq_true c13
        clear c13
        by_cases c14 : (rd t138 x5_1) < (rd t141 x5_1)
        ·
         rw [if_pos c14] at H
         have c14b0 := decide_eq_true c14
         clear c14
         obtain rfl := Option.some.inj H
         have p144 : 0 ≤ (x5_1 : Int) := of_decide_eq_true am_
         have q144 : x5_1 < (t138.length : Int) := of_decide_eq_true am_
         obtain ⟨ad144, e144, hx144_0⟩ := Kd.vw (Kd.vD HO_0.out).2.2 x5_1 p144 q144
         cases e144
         replace p144 := eq_true p144
         replace q144 := eq_true q144
         have p145 : 0 ≤ (x5_1 : Int) := of_decide_eq_true am_
         have q145 : x5_1 < (t141.length : Int) := of_decide_eq_true am_
         obtain ⟨ad145, e145, hx145_0⟩ := Kd.vw (Kd.vD HO_1.out).2.2 x5_1 p145 q145
         cases e145
         replace p145 := eq_true p145
         replace q145 := eq_true q145
         go_wp2
         repeat (go_quiet (fail); try go_wp2)
         go_ret
         exact ⟨ew_, (bb_ HB)⟩
        ·
         rw [if_neg c14] at H
         have c14b0 := decide_eq_false c14
         clear c14
         by_cases c15 : (rd t138 x5_1) > (rd t141 x5_1)
         ·
          rw [if_pos c15] at H
          have c15b0 := decide_eq_true c15
          clear c15
          obtain rfl := Option.some.inj H
          have p144 : 0 ≤ (x5_1 : Int) := of_decide_eq_true am_
          have q144 : x5_1 < (t138.length : Int) := of_decide_eq_true am_
          obtain ⟨ad144, e144, hx144_0⟩ := Kd.vw (Kd.vD HO_0.out).2.2 x5_1 p144 q144
          cases e144
          replace p144 := eq_true p144
          replace q144 := eq_true q144
          have p145 : 0 ≤ (x5_1 : Int) := of_decide_eq_true am_
          have q145 : x5_1 < (t141.length : Int) := of_decide_eq_true am_
          obtain ⟨ad145, e145, hx145_0⟩ := Kd.vw (Kd.vD HO_1.out).2.2 x5_1 p145 q145
          cases e145
          replace p145 := eq_true p145
          replace q145 := eq_true q145
          have p146 : 0 ≤ (x5_1 : Int) := of_decide_eq_true am_
          have q146 : x5_1 < (t138.length : Int) := of_decide_eq_true am_
          obtain ⟨ad146, e146, hx146_0⟩ := Kd.vw (Kd.vD HO_0.out).2.2 x5_1 p146 q146
          obtain rfl : ad144 = ad146 := (by injection e146)
          replace p146 := eq_true p146
          replace q146 := eq_true q146
          have p147 : 0 ≤ (x5_1 : Int) := of_decide_eq_true am_
          have q147 : x5_1 < (t141.length : Int) := of_decide_eq_true am_
          obtain ⟨ad147, e147, hx147_0⟩ := Kd.vw (Kd.vD HO_1.out).2.2 x5_1 p147 q147
          obtain rfl : ad145 = ad147 := (by injection e147)
          replace p147 := eq_true p147
          replace q147 := eq_true q147
          go_wp2
          repeat (go_quiet (fail); try go_wp2)
          go_ret
          exact ⟨ew_, (bb_ HB)⟩
         ·
          rw [if_neg c15] at H
          have c15b0 := decide_eq_false c15
          clear c15
          have H' := jA.mk H
          clear H
          have p144 : 0 ≤ (x5_1 : Int) := of_decide_eq_true am_
          have q144 : x5_1 < (t138.length : Int) := of_decide_eq_true am_
          obtain ⟨ad144, e144, hx144_0⟩ := Kd.vw (Kd.vD HO_0.out).2.2 x5_1 p144 q144
          cases e144
          replace p144 := eq_true p144
          replace q144 := eq_true q144
          have p145 : 0 ≤ (x5_1 : Int) := of_decide_eq_true am_
          have q145 : x5_1 < (t141.length : Int) := of_decide_eq_true am_
          obtain ⟨ad145, e145, hx145_0⟩ := Kd.vw (Kd.vD HO_1.out).2.2 x5_1 p145 q145
          cases e145
          replace p145 := eq_true p145
          replace q145 := eq_true q145
          have p146 : 0 ≤ (x5_1 : Int) := of_decide_eq_true am_
          have q146 : x5_1 < (t138.length : Int) := of_decide_eq_true am_
          obtain ⟨ad146, e146, hx146_0⟩ := Kd.vw (Kd.vD HO_0.out).2.2 x5_1 p146 q146
          obtain rfl : ad144 = ad146 := (by injection e146)
          replace p146 := eq_true p146
          replace q146 := eq_true q146
          have p147 : 0 ≤ (x5_1 : Int) := of_decide_eq_true am_
          have q147 : x5_1 < (t141.length : Int) := of_decide_eq_true am_
          obtain ⟨ad147, e147, hx147_0⟩ := Kd.vw (Kd.vD HO_1.out).2.2 x5_1 p147 q147
          obtain rfl : ad145 = ad147 := (by injection e147)
          replace p147 := eq_true p147
          replace q147 := eq_true q147
          go_wp2
          repeat (go_quiet (fail); try go_wp2)
          go_roundg k1
          case measure => have := HK1.out; omega
          case rel => exact ⟨(wrap64 (x5_1 - 1)), sd_, H', ⟨by have := HK1.out; omega⟩, ⟨(rV_ HO_0)⟩, ⟨(rV_ HO_1)⟩, ⟨(bb_ HB)⟩⟩
       ·
        rw [if_neg c13] at H
        exact absurd H (by simp)
      ·
       rw [if_neg c12] at H
       exact absurd H (by simp)
     ·
      rw [if_neg c11] at H
      exact absurd H (by simp)
    ·
     rw [if_neg c10] at H
     have c10b0 := decide_eq_false c10
     clear c10
     obtain rfl := Option.some.inj H
     go_wp2
     repeat (go_quiet (fail); try go_wp2)
     go_ret
     exact ⟨ew_, (bb_ HB)⟩
 ·
  rw [if_neg c5] at H
  have c5b0 := beq_eq_false_iff_ne.mpr c5
  have c5b1 := bne_iff_ne.mpr c5
  have c5b2 : (t138.length == t141.length) = false := by first | simpa using c5 | (simp at c5 ⊢; omega)
  by_cases c16 : (t138.length : Int) < (t141.length : Int)
  ·
   rw [if_pos c16] at H
   have c16b0 := decide_eq_true c16
   have c16b1 : decide (t138.length < t141.length) = true := decide_eq_true (Int.ofNat_lt.mp c16)
   clear c16
   obtain rfl := Option.some.inj H
   go_enter Try.func98, Try.ntmps98
   go_wp2_with (first | (go_at_call 110; (with_reducible refine (jQ.calls k (fun k_ => k_ < w.heap.size) _ _ l0 t138 _ ?side1 A3.out).mono ?_); (case side1 => exact Kd.V_mk HC0.out (Kd.zk (Kd.C_F (Kd.zH .u64) HR0.out) (bb_ HB))); rintro e w17 ⟨v139, rfl, ho0, hb⟩; have HO140 := jA.mk (Kd.zh (Kd.vZ (ok' := fun k_ => True) ho0 (fun k_ hk_ => trivial)) (jC (bb_ HB))); replace HB := bs_ HB hb) | (go_at_call 110; (with_reducible refine (jQ.calls k (fun k_ => k_ < w.heap.size) _ _ l1 t141 _ ?side1 A4.out).mono ?_); (case side1 => exact Kd.V_mk HC1.out (Kd.zk (Kd.C_F (Kd.zH .u64) HR1.out) (bb_ HB))); rintro e w18 ⟨v142, rfl, ho0, hb⟩; replace HO140 := jA.mk (Kd.qy (rV_ HO140) hb); have HO143 := jA.mk (Kd.zh (Kd.vZ (ok' := fun k_ => True) ho0 (fun k_ hk_ => trivial)) (jC (bb_ HB))); replace HB := bs_ HB hb; obtain ⟨Ao19, co19, rfl⟩ := Kd.zR HO140.out; obtain ⟨Ao20, co20, rfl⟩ := Kd.zR HO143.out))
   repeat (go_quiet (first | (go_at_call 110; (with_reducible refine (jQ.calls k (fun k_ => k_ < w.heap.size) _ _ l0 t138 _ ?side1 A3.out).mono ?_); (case side1 => exact Kd.V_mk HC0.out (Kd.zk (Kd.C_F (Kd.zH .u64) HR0.out) (bb_ HB))); rintro e w17 ⟨v139, rfl, ho0, hb⟩; have HO140 := jA.mk (Kd.zh (Kd.vZ (ok' := fun k_ => True) ho0 (fun k_ hk_ => trivial)) (jC (bb_ HB))); replace HB := bs_ HB hb) | (go_at_call 110; (with_reducible refine (jQ.calls k (fun k_ => k_ < w.heap.size) _ _ l1 t141 _ ?side1 A4.out).mono ?_); (case side1 => exact Kd.V_mk HC1.out (Kd.zk (Kd.C_F (Kd.zH .u64) HR1.out) (bb_ HB))); rintro e w18 ⟨v142, rfl, ho0, hb⟩; replace HO140 := jA.mk (Kd.qy (rV_ HO140) hb); have HO143 := jA.mk (Kd.zh (Kd.vZ (ok' := fun k_ => True) ho0 (fun k_ hk_ => trivial)) (jC (bb_ HB))); replace HB := bs_ HB hb; obtain ⟨Ao19, co19, rfl⟩ := Kd.zR HO140.out; obtain ⟨Ao20, co20, rfl⟩ := Kd.zR HO143.out)); try go_wp2_with (first | (go_at_call 110; (with_reducible refine (jQ.calls k (fun k_ => k_ < w.heap.size) _ _ l0 t138 _ ?side1 A3.out).mono ?_); (case side1 => exact Kd.V_mk HC0.out (Kd.zk (Kd.C_F (Kd.zH .u64) HR0.out) (bb_ HB))); rintro e w17 ⟨v139, rfl, ho0, hb⟩; have HO140 := jA.mk (Kd.zh (Kd.vZ (ok' := fun k_ => True) ho0 (fun k_ hk_ => trivial)) (jC (bb_ HB))); replace HB := bs_ HB hb) | (go_at_call 110; (with_reducible refine (jQ.calls k (fun k_ => k_ < w.heap.size) _ _ l1 t141 _ ?side1 A4.out).mono ?_); (case side1 => exact Kd.V_mk HC1.out (Kd.zk (Kd.C_F (Kd.zH .u64) HR1.out) (bb_ HB))); rintro e w18 ⟨v142, rfl, ho0, hb⟩; replace HO140 := jA.mk (Kd.qy (rV_ HO140) hb); have HO143 := jA.mk (Kd.zh (Kd.vZ (ok' := fun k_ => True) ho0 (fun k_ hk_ => trivial)) (jC (bb_ HB))); replace HB := bs_ HB hb; obtain ⟨Ao19, co19, rfl⟩ := Kd.zR HO140.out; obtain ⟨Ao20, co20, rfl⟩ := Kd.zR HO143.out)))
   go_ret
   exact ⟨ew_, (bb_ HB)⟩
  ·
   rw [if_neg c16] at H
   have c16b0 := decide_eq_false c16
   have c16b1 : decide (t138.length < t141.length) = false := decide_eq_false (fun h => c16 (Int.ofNat_lt.mpr h))
   clear c16
   obtain rfl := Option.some.inj H
   go_enter Try.func98, Try.ntmps98
   go_wp2_with (first | (go_at_call 110; (with_reducible refine (jQ.calls k (fun k_ => k_ < w.heap.size) _ _ l0 t138 _ ?side1 A3.out).mono ?_); (case side1 => exact Kd.V_mk HC0.out (Kd.zk (Kd.C_F (Kd.zH .u64) HR0.out) (bb_ HB))); rintro e w21 ⟨v139, rfl, ho0, hb⟩; have HO140 := jA.mk (Kd.zh (Kd.vZ (ok' := fun k_ => True) ho0 (fun k_ hk_ => trivial)) (jC (bb_ HB))); replace HB := bs_ HB hb) | (go_at_call 110; (with_reducible refine (jQ.calls k (fun k_ => k_ < w.heap.size) _ _ l1 t141 _ ?side1 A4.out).mono ?_); (case side1 => exact Kd.V_mk HC1.out (Kd.zk (Kd.C_F (Kd.zH .u64) HR1.out) (bb_ HB))); rintro e w22 ⟨v142, rfl, ho0, hb⟩; replace HO140 := jA.mk (Kd.qy (rV_ HO140) hb); have HO143 := jA.mk (Kd.zh (Kd.vZ (ok' := fun k_ => True) ho0 (fun k_ hk_ => trivial)) (jC (bb_ HB))); replace HB := bs_ HB hb; obtain ⟨Ao23, co23, rfl⟩ := Kd.zR HO140.out; obtain ⟨Ao24, co24, rfl⟩ := Kd.zR HO143.out))
   repeat (go_quiet (first | (go_at_call 110; (with_reducible refine (jQ.calls k (fun k_ => k_ < w.heap.size) _ _ l0 t138 _ ?side1 A3.out).mono ?_); (case side1 => exact Kd.V_mk HC0.out (Kd.zk (Kd.C_F (Kd.zH .u64) HR0.out) (bb_ HB))); rintro e w21 ⟨v139, rfl, ho0, hb⟩; have HO140 := jA.mk (Kd.zh (Kd.vZ (ok' := fun k_ => True) ho0 (fun k_ hk_ => trivial)) (jC (bb_ HB))); replace HB := bs_ HB hb) | (go_at_call 110; (with_reducible refine (jQ.calls k (fun k_ => k_ < w.heap.size) _ _ l1 t141 _ ?side1 A4.out).mono ?_); (case side1 => exact Kd.V_mk HC1.out (Kd.zk (Kd.C_F (Kd.zH .u64) HR1.out) (bb_ HB))); rintro e w22 ⟨v142, rfl, ho0, hb⟩; replace HO140 := jA.mk (Kd.qy (rV_ HO140) hb); have HO143 := jA.mk (Kd.zh (Kd.vZ (ok' := fun k_ => True) ho0 (fun k_ hk_ => trivial)) (jC (bb_ HB))); replace HB := bs_ HB hb; obtain ⟨Ao23, co23, rfl⟩ := Kd.zR HO140.out; obtain ⟨Ao24, co24, rfl⟩ := Kd.zR HO143.out)); try go_wp2_with (first | (go_at_call 110; (with_reducible refine (jQ.calls k (fun k_ => k_ < w.heap.size) _ _ l0 t138 _ ?side1 A3.out).mono ?_); (case side1 => exact Kd.V_mk HC0.out (Kd.zk (Kd.C_F (Kd.zH .u64) HR0.out) (bb_ HB))); rintro e w21 ⟨v139, rfl, ho0, hb⟩; have HO140 := jA.mk (Kd.zh (Kd.vZ (ok' := fun k_ => True) ho0 (fun k_ hk_ => trivial)) (jC (bb_ HB))); replace HB := bs_ HB hb) | (go_at_call 110; (with_reducible refine (jQ.calls k (fun k_ => k_ < w.heap.size) _ _ l1 t141 _ ?side1 A4.out).mono ?_); (case side1 => exact Kd.V_mk HC1.out (Kd.zk (Kd.C_F (Kd.zH .u64) HR1.out) (bb_ HB))); rintro e w22 ⟨v142, rfl, ho0, hb⟩; replace HO140 := jA.mk (Kd.qy (rV_ HO140) hb); have HO143 := jA.mk (Kd.zh (Kd.vZ (ok' := fun k_ => True) ho0 (fun k_ hk_ => trivial)) (jC (bb_ HB))); replace HB := bs_ HB hb; obtain ⟨Ao23, co23, rfl⟩ := Kd.zR HO140.out; obtain ⟨Ao24, co24, rfl⟩ := Kd.zR HO143.out)))
   go_ret
   exact ⟨ew_, (bb_ HB)⟩
end Go.Proofs.Ytijgeonhbmgikaa.PORatioField
