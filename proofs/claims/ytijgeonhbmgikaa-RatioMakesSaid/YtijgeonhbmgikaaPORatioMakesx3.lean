-- printed (pr.py)
import Derived.Test.YtijgeonhbmgikaaPORatioMakesx1
namespace Go.Proofs.Ytijgeonhbmgikaa.PORatioMakes
open Go.RowKit Go.Proofs.YtijgeonhbmgikaaN Go.Proofs.YtijgeonhbmgikaaW.PrintWords Go.Proofs.YtijgeonhbmgikaaW.PrintLast Go.Proofs.YtijgeonhbmgikaaW.PrintMore
attribute [local go_sem] qJ qH qd qc zo zn qI qG
set_option maxHeartbeats 8000000
set_option maxRecDepth 100000
set_option linter.unusedVariables false
set_option linter.unusedSimpArgs false
def vv.l0 : Nat → List Int → List Int → Int → Option (Int)
 | 0, _, _, _ => none
 | k + 1, x0, x1, x5 => if x5 ≥ 0 then (if 0 ≤ x5 then (if x5 < (x0.length : Int) then (if x5 < (x1.length : Int) then (if (rd x0 x5) < (rd x1 x5) then (some (-1)) else (if (rd x0 x5) > (rd x1 x5) then (some 1) else (vv.l0 k x0 x1 (wrap64 (x5 - 1))))) else (none)) else (none)) else (none)) else (some 0)
def vv.f (k : Nat) (l0 : List Int) (l1 : List Int) : Option (Int) := (jS.f k l0).bind fun t131 => ((jS.f k l1).bind fun t134 => (if (t131.length : Int) = (t134.length : Int) then (vv.l0 k t131 t134 (wrap64 ((t131.length : Int) - 1))) else (if (t131.length : Int) < (t134.length : Int) then (some (-1)) else (some 1))))
theorem vv.vQ : ∀ k, (∀ y0 y1 y2, LeO (vv.l0 k y0 y1 y2) (vv.l0 (k + 1) y0 y1 y2))
 | 0 => fun _ _ _ r h => by simp [vv.l0] at h
 | k + 1 => by
  have ih0 := vv.vQ k
  ·
   intro y0 y1 y2
   unfold vv.l0
   repeat' first
   | (with_reducible exact ih0 _ _ _)
   | (with_reducible exact jS.mono _ _)
   | (with_reducible exact LeO.refl _)
   | (with_reducible exact LeO.none _)
   | (with_reducible refine LeO.ite ?_ ?_)
   | (with_reducible refine LeO.bind ?_ (fun _ => ?_))
theorem vv.mono : ∀ a0 a1 k, LeO (vv.f k a0 a1) (vv.f (k + 1) a0 a1) := by
 intro a0 a1 k
 have ih0 := vv.vQ k
 unfold vv.f
 repeat' first
   | (with_reducible exact ih0 _ _ _)
   | (with_reducible exact jS.mono _ _)
   | (with_reducible exact LeO.refl _)
   | (with_reducible exact LeO.none _)
   | (with_reducible refine LeO.ite ?_ ?_)
   | (with_reducible refine LeO.bind ?_ (fun _ => ?_))
theorem vv.calls (k : Nat) (A0 : Option Addr) (c0 : Nat) (l0 : List Int) (A1 : Option Addr) (c1 : Nat) (l1 : List Int) (r : Int) (w : World) (hr0 : Kd.C (Kd.int .u64) w A0 l0.length l0) (hc0 : l0.length ≤ c0) (hr1 : Kd.C (Kd.int .u64) w A1 l1.length l1) (hc1 : l1.length ≤ c1) (h : vv.f k l0 l1 = some r) :
  Calls Try.prog 98 #[.slice A0 l0.length c0, .slice A1 l1.length c1] w fun e w' => e = .returned (.int .i64 r) ∧ Below w.heap.size w w' := by
 have HR0 := jA.mk hr0
 have HC0 := jA.mk hc0
 clear hr0 hc0
 have HR1 := jA.mk hr1
 have HC1 := jA.mk hc1
 clear hr1 hc1
 have HB := jA.mk (Below.refl w.heap.size w)
 have H : ((jS.f k l0).bind fun t131 => ((jS.f k l1).bind fun t134 => (if (t131.length : Int) = (t134.length : Int) then (vv.l0 k t131 t134 (wrap64 ((t131.length : Int) - 1))) else (if (t131.length : Int) < (t134.length : Int) then (some (-1)) else (some 1))))) = some r := h
 clear h
 obtain ⟨t131, A3, H⟩ := oc_ H
 try dsimp only at H
 obtain ⟨t134, A4, H⟩ := oc_ H
 try dsimp only at H
 by_cases c5 : (t131.length : Int) = (t134.length : Int)
 ·
  rw [if_pos c5] at H
  have c5b0 := beq_iff_eq.mpr c5
  have c5b1 := bne_eq_false_iff_eq.mpr c5
  have c5b2 : (t131.length == t134.length) = true := by first | simpa using c5 | (simp at c5 ⊢; omega)
  clear c5
  have H' := jA.mk H
  clear H
  go_enter Try.func98, Try.ntmps98
  go_wp2_with (first | (go_at_call 110; (with_reducible refine (jS.calls k (fun k_ => k_ < w.heap.size) _ _ l0 t131 _ ?side1 A3.out).mono ?_); (case side1 => exact Kd.V_mk HC0.out (Kd.zZ (Kd.C_F (Kd.zI .u64) HR0.out) (bb_ HB))); rintro e w6 ⟨v132, rfl, ho0, hb⟩; have HO133 := jA.mk (Kd.zf (Kd.zF (ok' := fun k_ => True) ho0 (fun k_ hk_ => trivial)) (jB (bb_ HB))); replace HB := bs_ HB hb) | (go_at_call 110; (with_reducible refine (jS.calls k (fun k_ => k_ < w.heap.size) _ _ l1 t134 _ ?side1 A4.out).mono ?_); (case side1 => exact Kd.V_mk HC1.out (Kd.zZ (Kd.C_F (Kd.zI .u64) HR1.out) (bb_ HB))); rintro e w7 ⟨v135, rfl, ho0, hb⟩; replace HO133 := jA.mk (Kd.jAA (rV_ HO133) hb); have HO136 := jA.mk (Kd.zf (Kd.zF (ok' := fun k_ => True) ho0 (fun k_ hk_ => trivial)) (jB (bb_ HB))); replace HB := bs_ HB hb; obtain ⟨Ao8, co8, rfl⟩ := Kd.zX HO133.out; obtain ⟨Ao9, co9, rfl⟩ := Kd.zX HO136.out))
  repeat (go_quiet (first | (go_at_call 110; (with_reducible refine (jS.calls k (fun k_ => k_ < w.heap.size) _ _ l0 t131 _ ?side1 A3.out).mono ?_); (case side1 => exact Kd.V_mk HC0.out (Kd.zZ (Kd.C_F (Kd.zI .u64) HR0.out) (bb_ HB))); rintro e w6 ⟨v132, rfl, ho0, hb⟩; have HO133 := jA.mk (Kd.zf (Kd.zF (ok' := fun k_ => True) ho0 (fun k_ hk_ => trivial)) (jB (bb_ HB))); replace HB := bs_ HB hb) | (go_at_call 110; (with_reducible refine (jS.calls k (fun k_ => k_ < w.heap.size) _ _ l1 t134 _ ?side1 A4.out).mono ?_); (case side1 => exact Kd.V_mk HC1.out (Kd.zZ (Kd.C_F (Kd.zI .u64) HR1.out) (bb_ HB))); rintro e w7 ⟨v135, rfl, ho0, hb⟩; replace HO133 := jA.mk (Kd.jAA (rV_ HO133) hb); have HO136 := jA.mk (Kd.zf (Kd.zF (ok' := fun k_ => True) ho0 (fun k_ hk_ => trivial)) (jB (bb_ HB))); replace HB := bs_ HB hb; obtain ⟨Ao8, co8, rfl⟩ := Kd.zX HO133.out; obtain ⟨Ao9, co9, rfl⟩ := Kd.zX HO136.out)); try go_wp2_with (first | (go_at_call 110; (with_reducible refine (jS.calls k (fun k_ => k_ < w.heap.size) _ _ l0 t131 _ ?side1 A3.out).mono ?_); (case side1 => exact Kd.V_mk HC0.out (Kd.zZ (Kd.C_F (Kd.zI .u64) HR0.out) (bb_ HB))); rintro e w6 ⟨v132, rfl, ho0, hb⟩; have HO133 := jA.mk (Kd.zf (Kd.zF (ok' := fun k_ => True) ho0 (fun k_ hk_ => trivial)) (jB (bb_ HB))); replace HB := bs_ HB hb) | (go_at_call 110; (with_reducible refine (jS.calls k (fun k_ => k_ < w.heap.size) _ _ l1 t134 _ ?side1 A4.out).mono ?_); (case side1 => exact Kd.V_mk HC1.out (Kd.zZ (Kd.C_F (Kd.zI .u64) HR1.out) (bb_ HB))); rintro e w7 ⟨v135, rfl, ho0, hb⟩; replace HO133 := jA.mk (Kd.jAA (rV_ HO133) hb); have HO136 := jA.mk (Kd.zf (Kd.zF (ok' := fun k_ => True) ho0 (fun k_ hk_ => trivial)) (jB (bb_ HB))); replace HB := bs_ HB hb; obtain ⟨Ao8, co8, rfl⟩ := Kd.zX HO133.out; obtain ⟨Ao9, co9, rfl⟩ := Kd.zX HO136.out)))
  go_loopg [5] k (fun kq v5 w' => ∃ (x5_1 : Int), v5 = .int .i64 x5_1 ∧ jA (vv.l0 kq t131 t134 x5_1 = some r) ∧ jA (kq ≤ k) ∧ jA (Kd.V (Kd.int .u64) 22 w' w.heap.size (fun _ => True) (.slice Ao8 t131.length co8) t131) ∧ jA (Kd.V (Kd.int .u64) 22 w' w.heap.size (fun _ => True) (.slice Ao9 t134.length co9) t134) ∧ jA (Below w.heap.size w w'))
  case atStart => exact ⟨(wrap64 ((t131.length : Int) - 1)), sd_, H', ⟨Nat.le_refl _⟩, ⟨(rV_ HO133)⟩, ⟨(rV_ HO136)⟩, ⟨(bb_ HB)⟩⟩
  case round =>
   clear H'
   try clear c1
   try clear p2
   try clear c5
   try clear c5b0
   try clear c5b1
   try clear c5b2
   try clear p6
   try clear c9
   obtain ⟨x5_1, rfl, HA, HK1, HO_0, HO_1, HB⟩ := hrel
   cases gk with
   | zero => exact absurd HA.out (by simp [vv.l0])
   | succ k1 =>
    have H := HA.out
    clear HA
    simp only [vv.l0] at H
    by_cases c10 : x5_1 ≥ 0
    ·
     rw [if_pos c10] at H
     have c10b0 := decide_eq_true c10
     clear c10
     by_cases c11 : 0 ≤ x5_1
     ·
      rw [if_pos c11] at H
      have c11b0 := decide_eq_true c11
      clear c11
      by_cases c12 : x5_1 < (t131.length : Int)
      ·
       rw [if_pos c12] at H
       have c12b0 := decide_eq_true c12
       clear c12
       by_cases c13 : x5_1 < (t134.length : Int)
       ·
        rw [if_pos c13] at H
        have c13b0 := decide_eq_true c13
        clear c13
        by_cases c14 : (rd t131 x5_1) < (rd t134 x5_1)
        ·
         rw [if_pos c14] at H
         have c14b0 := decide_eq_true c14
         clear c14
         obtain rfl := Option.some.inj H
         have p137 : 0 ≤ (x5_1 : Int) := of_decide_eq_true am_
         have q137 : x5_1 < (t131.length : Int) := of_decide_eq_true am_
         obtain ⟨ad137, e137, hx137_0⟩ := Kd.zJ (Kd.vG HO_0.out).2.2 x5_1 p137 q137
         cases e137
         replace p137 := eq_true p137
         replace q137 := eq_true q137
         have p138 : 0 ≤ (x5_1 : Int) := of_decide_eq_true am_
         have q138 : x5_1 < (t134.length : Int) := of_decide_eq_true am_
         obtain ⟨ad138, e138, hx138_0⟩ := Kd.zJ (Kd.vG HO_1.out).2.2 x5_1 p138 q138
         cases e138
         replace p138 := eq_true p138
         replace q138 := eq_true q138
         go_wp2
         repeat (go_quiet (fail); try go_wp2)
         go_ret
         exact ⟨ew_, (bb_ HB)⟩
        ·
         rw [if_neg c14] at H
         have c14b0 := decide_eq_false c14
         clear c14
         by_cases c15 : (rd t131 x5_1) > (rd t134 x5_1)
         ·
          rw [if_pos c15] at H
          have c15b0 := decide_eq_true c15
          clear c15
          obtain rfl := Option.some.inj H
          have p137 : 0 ≤ (x5_1 : Int) := of_decide_eq_true am_
          have q137 : x5_1 < (t131.length : Int) := of_decide_eq_true am_
          obtain ⟨ad137, e137, hx137_0⟩ := Kd.zJ (Kd.vG HO_0.out).2.2 x5_1 p137 q137
          cases e137
          replace p137 := eq_true p137
          replace q137 := eq_true q137
          have p138 : 0 ≤ (x5_1 : Int) := of_decide_eq_true am_
          have q138 : x5_1 < (t134.length : Int) := of_decide_eq_true am_
          obtain ⟨ad138, e138, hx138_0⟩ := Kd.zJ (Kd.vG HO_1.out).2.2 x5_1 p138 q138
          cases e138
          replace p138 := eq_true p138
          replace q138 := eq_true q138
          have p139 : 0 ≤ (x5_1 : Int) := of_decide_eq_true am_
          have q139 : x5_1 < (t131.length : Int) := of_decide_eq_true am_
          obtain ⟨ad139, e139, hx139_0⟩ := Kd.zJ (Kd.vG HO_0.out).2.2 x5_1 p139 q139
          obtain rfl : ad137 = ad139 := (by injection e139)
          replace p139 := eq_true p139
          replace q139 := eq_true q139
          have p140 : 0 ≤ (x5_1 : Int) := of_decide_eq_true am_
          have q140 : x5_1 < (t134.length : Int) := of_decide_eq_true am_
          obtain ⟨ad140, e140, hx140_0⟩ := Kd.zJ (Kd.vG HO_1.out).2.2 x5_1 p140 q140
          obtain rfl : ad138 = ad140 := (by injection e140)
          replace p140 := eq_true p140
          replace q140 := eq_true q140
          go_wp2
          repeat (go_quiet (fail); try go_wp2)
          go_ret
          exact ⟨ew_, (bb_ HB)⟩
         ·
          rw [if_neg c15] at H
          have c15b0 := decide_eq_false c15
          clear c15
          have H' := jA.mk H
          clear H
          have p137 : 0 ≤ (x5_1 : Int) := of_decide_eq_true am_
          have q137 : x5_1 < (t131.length : Int) := of_decide_eq_true am_
          obtain ⟨ad137, e137, hx137_0⟩ := Kd.zJ (Kd.vG HO_0.out).2.2 x5_1 p137 q137
          cases e137
          replace p137 := eq_true p137
          replace q137 := eq_true q137
          have p138 : 0 ≤ (x5_1 : Int) := of_decide_eq_true am_
          have q138 : x5_1 < (t134.length : Int) := of_decide_eq_true am_
          obtain ⟨ad138, e138, hx138_0⟩ := Kd.zJ (Kd.vG HO_1.out).2.2 x5_1 p138 q138
          cases e138
          replace p138 := eq_true p138
          replace q138 := eq_true q138
          have p139 : 0 ≤ (x5_1 : Int) := of_decide_eq_true am_
          have q139 : x5_1 < (t131.length : Int) := of_decide_eq_true am_
          obtain ⟨ad139, e139, hx139_0⟩ := Kd.zJ (Kd.vG HO_0.out).2.2 x5_1 p139 q139
          obtain rfl : ad137 = ad139 := (by injection e139)
          replace p139 := eq_true p139
          replace q139 := eq_true q139
          have p140 : 0 ≤ (x5_1 : Int) := of_decide_eq_true am_
          have q140 : x5_1 < (t134.length : Int) := of_decide_eq_true am_
          obtain ⟨ad140, e140, hx140_0⟩ := Kd.zJ (Kd.vG HO_1.out).2.2 x5_1 p140 q140
          obtain rfl : ad138 = ad140 := (by injection e140)
          replace p140 := eq_true p140
          replace q140 := eq_true q140
          go_wp2
          repeat (go_quiet (fail); try go_wp2)
          go_roundg k1
          case measure => have := HK1.out; omega
          case rel => exact ⟨(wrap64 (x5_1 - 1)), sd_, H', ⟨by have := HK1.out; omega⟩, ⟨(rV_ HO_0)⟩, ⟨(rV_ HO_1)⟩, ⟨(bb_ HB)⟩⟩
       ·
        rw [if_neg c13] at H
        exact absurd H (by simp)
      ·
       rw [if_neg c12] at H
       exact absurd H (by simp)
     ·
      rw [if_neg c11] at H
      exact absurd H (by simp)
    ·
     rw [if_neg c10] at H
     have c10b0 := decide_eq_false c10
     clear c10
     obtain rfl := Option.some.inj H
     go_wp2
     repeat (go_quiet (fail); try go_wp2)
     go_ret
     exact ⟨ew_, (bb_ HB)⟩
 ·
  rw [if_neg c5] at H
  have c5b0 := beq_eq_false_iff_ne.mpr c5
  have c5b1 := bne_iff_ne.mpr c5
  have c5b2 : (t131.length == t134.length) = false := by first | simpa using c5 | (simp at c5 ⊢; omega)
  by_cases c16 : (t131.length : Int) < (t134.length : Int)
  ·
   rw [if_pos c16] at H
   have c16b0 := decide_eq_true c16
   have c16b1 : decide (t131.length < t134.length) = true := decide_eq_true (Int.ofNat_lt.mp c16)
   clear c16
   obtain rfl := Option.some.inj H
   go_enter Try.func98, Try.ntmps98
   go_wp2_with (first | (go_at_call 110; (with_reducible refine (jS.calls k (fun k_ => k_ < w.heap.size) _ _ l0 t131 _ ?side1 A3.out).mono ?_); (case side1 => exact Kd.V_mk HC0.out (Kd.zZ (Kd.C_F (Kd.zI .u64) HR0.out) (bb_ HB))); rintro e w17 ⟨v132, rfl, ho0, hb⟩; have HO133 := jA.mk (Kd.zf (Kd.zF (ok' := fun k_ => True) ho0 (fun k_ hk_ => trivial)) (jB (bb_ HB))); replace HB := bs_ HB hb) | (go_at_call 110; (with_reducible refine (jS.calls k (fun k_ => k_ < w.heap.size) _ _ l1 t134 _ ?side1 A4.out).mono ?_); (case side1 => exact Kd.V_mk HC1.out (Kd.zZ (Kd.C_F (Kd.zI .u64) HR1.out) (bb_ HB))); rintro e w18 ⟨v135, rfl, ho0, hb⟩; replace HO133 := jA.mk (Kd.jAA (rV_ HO133) hb); have HO136 := jA.mk (Kd.zf (Kd.zF (ok' := fun k_ => True) ho0 (fun k_ hk_ => trivial)) (jB (bb_ HB))); replace HB := bs_ HB hb; obtain ⟨Ao19, co19, rfl⟩ := Kd.zX HO133.out; obtain ⟨Ao20, co20, rfl⟩ := Kd.zX HO136.out))
   repeat (go_quiet (first | (go_at_call 110; (with_reducible refine (jS.calls k (fun k_ => k_ < w.heap.size) _ _ l0 t131 _ ?side1 A3.out).mono ?_); (case side1 => exact Kd.V_mk HC0.out (Kd.zZ (Kd.C_F (Kd.zI .u64) HR0.out) (bb_ HB))); rintro e w17 ⟨v132, rfl, ho0, hb⟩; have HO133 := jA.mk (Kd.zf (Kd.zF (ok' := fun k_ => True) ho0 (fun k_ hk_ => trivial)) (jB (bb_ HB))); replace HB := bs_ HB hb) | (go_at_call 110; (with_reducible refine (jS.calls k (fun k_ => k_ < w.heap.size) _ _ l1 t134 _ ?side1 A4.out).mono ?_); (case side1 => exact Kd.V_mk HC1.out (Kd.zZ (Kd.C_F (Kd.zI .u64) HR1.out) (bb_ HB))); rintro e w18 ⟨v135, rfl, ho0, hb⟩; replace HO133 := jA.mk (Kd.jAA (rV_ HO133) hb); have HO136 := jA.mk (Kd.zf (Kd.zF (ok' := fun k_ => True) ho0 (fun k_ hk_ => trivial)) (jB (bb_ HB))); replace HB := bs_ HB hb; obtain ⟨Ao19, co19, rfl⟩ := Kd.zX HO133.out; obtain ⟨Ao20, co20, rfl⟩ := Kd.zX HO136.out)); try go_wp2_with (first | (go_at_call 110; (with_reducible refine (jS.calls k (fun k_ => k_ < w.heap.size) _ _ l0 t131 _ ?side1 A3.out).mono ?_); (case side1 => exact Kd.V_mk HC0.out (Kd.zZ (Kd.C_F (Kd.zI .u64) HR0.out) (bb_ HB))); rintro e w17 ⟨v132, rfl, ho0, hb⟩; have HO133 := jA.mk (Kd.zf (Kd.zF (ok' := fun k_ => True) ho0 (fun k_ hk_ => trivial)) (jB (bb_ HB))); replace HB := bs_ HB hb) | (go_at_call 110; (with_reducible refine (jS.calls k (fun k_ => k_ < w.heap.size) _ _ l1 t134 _ ?side1 A4.out).mono ?_); (case side1 => exact Kd.V_mk HC1.out (Kd.zZ (Kd.C_F (Kd.zI .u64) HR1.out) (bb_ HB))); rintro e w18 ⟨v135, rfl, ho0, hb⟩; replace HO133 := jA.mk (Kd.jAA (rV_ HO133) hb); have HO136 := jA.mk (Kd.zf (Kd.zF (ok' := fun k_ => True) ho0 (fun k_ hk_ => trivial)) (jB (bb_ HB))); replace HB := bs_ HB hb; obtain ⟨Ao19, co19, rfl⟩ := Kd.zX HO133.out; obtain ⟨Ao20, co20, rfl⟩ := Kd.zX HO136.out)))
   go_ret
   exact ⟨ew_, (bb_ HB)⟩
  ·
   rw [if_neg c16] at H
   have c16b0 := decide_eq_false c16
   have c16b1 : decide (t131.length < t134.length) = false := decide_eq_false (fun h => c16 (Int.ofNat_lt.mpr h))
   clear c16
   obtain rfl := Option.some.inj H
   go_enter Try.func98, Try.ntmps98
   go_wp2_with (first | (go_at_call 110; (with_reducible refine (jS.calls k (fun k_ => k_ < w.heap.size) _ _ l0 t131 _ ?side1 A3.out).mono ?_); (case side1 => exact Kd.V_mk HC0.out (Kd.zZ (Kd.C_F (Kd.zI .u64) HR0.out) (bb_ HB))); rintro e w21 ⟨v132, rfl, ho0, hb⟩; have HO133 := jA.mk (Kd.zf (Kd.zF (ok' := fun k_ => True) ho0 (fun k_ hk_ => trivial)) (jB (bb_ HB))); replace HB := bs_ HB hb) | (go_at_call 110; (with_reducible refine (jS.calls k (fun k_ => k_ < w.heap.size) _ _ l1 t134 _ ?side1 A4.out).mono ?_); (case side1 => exact Kd.V_mk HC1.out (Kd.zZ (Kd.C_F (Kd.zI .u64) HR1.out) (bb_ HB))); rintro e w22 ⟨v135, rfl, ho0, hb⟩; replace HO133 := jA.mk (Kd.jAA (rV_ HO133) hb); have HO136 := jA.mk (Kd.zf (Kd.zF (ok' := fun k_ => True) ho0 (fun k_ hk_ => trivial)) (jB (bb_ HB))); replace HB := bs_ HB hb; obtain ⟨Ao23, co23, rfl⟩ := Kd.zX HO133.out; obtain ⟨Ao24, co24, rfl⟩ := Kd.zX HO136.out))
   repeat (go_quiet (first | (go_at_call 110; (with_reducible refine (jS.calls k (fun k_ => k_ < w.heap.size) _ _ l0 t131 _ ?side1 A3.out).mono ?_); (case side1 => exact Kd.V_mk HC0.out (Kd.zZ (Kd.C_F (Kd.zI .u64) HR0.out) (bb_ HB))); rintro e w21 ⟨v132, rfl, ho0, hb⟩; have HO133 := jA.mk (Kd.zf (Kd.zF (ok' := fun k_ => True) ho0 (fun k_ hk_ => trivial)) (jB (bb_ HB))); replace HB := bs_ HB hb) | (go_at_call 110; (with_reducible refine (jS.calls k (fun k_ => k_ < w.heap.size) _ _ l1 t134 _ ?side1 A4.out).mono ?_); (case side1 => exact Kd.V_mk HC1.out (Kd.zZ (Kd.C_F (Kd.zI .u64) HR1.out) (bb_ HB))); rintro e w22 ⟨v135, rfl, ho0, hb⟩; replace HO133 := jA.mk (Kd.jAA (rV_ HO133) hb); have HO136 := jA.mk (Kd.zf (Kd.zF (ok' := fun k_ => True) ho0 (fun k_ hk_ => trivial)) (jB (bb_ HB))); replace HB := bs_ HB hb; obtain ⟨Ao23, co23, rfl⟩ := Kd.zX HO133.out; obtain ⟨Ao24, co24, rfl⟩ := Kd.zX HO136.out)); try go_wp2_with (first | (go_at_call 110; (with_reducible refine (jS.calls k (fun k_ => k_ < w.heap.size) _ _ l0 t131 _ ?side1 A3.out).mono ?_); (case side1 => exact Kd.V_mk HC0.out (Kd.zZ (Kd.C_F (Kd.zI .u64) HR0.out) (bb_ HB))); rintro e w21 ⟨v132, rfl, ho0, hb⟩; have HO133 := jA.mk (Kd.zf (Kd.zF (ok' := fun k_ => True) ho0 (fun k_ hk_ => trivial)) (jB (bb_ HB))); replace HB := bs_ HB hb) | (go_at_call 110; (with_reducible refine (jS.calls k (fun k_ => k_ < w.heap.size) _ _ l1 t134 _ ?side1 A4.out).mono ?_); (case side1 => exact Kd.V_mk HC1.out (Kd.zZ (Kd.C_F (Kd.zI .u64) HR1.out) (bb_ HB))); rintro e w22 ⟨v135, rfl, ho0, hb⟩; replace HO133 := jA.mk (Kd.jAA (rV_ HO133) hb); have HO136 := jA.mk (Kd.zf (Kd.zF (ok' := fun k_ => True) ho0 (fun k_ hk_ => trivial)) (jB (bb_ HB))); replace HB := bs_ HB hb; obtain ⟨Ao23, co23, rfl⟩ := Kd.zX HO133.out; obtain ⟨Ao24, co24, rfl⟩ := Kd.zX HO136.out)))
   go_ret
   exact ⟨ew_, (bb_ HB)⟩
end Go.Proofs.Ytijgeonhbmgikaa.PORatioMakes
