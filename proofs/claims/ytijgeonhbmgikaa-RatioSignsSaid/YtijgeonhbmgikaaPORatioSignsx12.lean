-- printed (pr.py)
import Derived.Test.YtijgeonhbmgikaaPORatioSignsx0
namespace Go.Proofs.Ytijgeonhbmgikaa.PORatioSigns
open Go.RowKit Go.Proofs.YtijgeonhbmgikaaN Go.Proofs.YtijgeonhbmgikaaW.PrintWords Go.Proofs.YtijgeonhbmgikaaW.PrintLast Go.Proofs.YtijgeonhbmgikaaW.PrintMore
attribute [local go_sem] qG qE qg qd zl zk qF qD
set_option maxHeartbeats 8000000
set_option maxRecDepth 100000
set_option linter.unusedVariables false
set_option linter.unusedSimpArgs false

/-! ### jN: function 91 -/
def jN.l0 : Nat → List Int → List Int → Int → Int → Option (Bool)
 | 0, _, _, _, _ => none
 | k + 1, x0, x1, x12, x13 => if x13 < x12 then (if 0 ≤ x13 then (if x13 < (x0.length : Int) then (if x13 < (x1.length : Int) then (if (rd x0 x13) = (rd x1 x13) then (jN.l0 k x0 x1 x12 (wrap64 (x13 + 1))) else (some false)) else (none)) else (none)) else (none)) else (some true)
def jN.f (k : Nat) (l0 : List Int) (l1 : List Int) : Option (Bool) := if (l0.length : Int) = (l1.length : Int) then (jN.l0 k l0 l1 (l0.length : Int) 0) else (some false)
theorem jN.zF : ∀ k, (∀ y0 y1 y2 y3, LeO (jN.l0 k y0 y1 y2 y3) (jN.l0 (k + 1) y0 y1 y2 y3))
 | 0 => fun _ _ _ _ r h => by simp [jN.l0] at h
 | k + 1 => by
  have ih0 := jN.zF k
  ·
   intro y0 y1 y2 y3
   unfold jN.l0
   repeat' first
   | (with_reducible exact ih0 _ _ _ _)
   | (with_reducible exact LeO.refl _)
   | (with_reducible exact LeO.none _)
   | (with_reducible refine LeO.ite ?_ ?_)
   | (with_reducible refine LeO.bind ?_ (fun _ => ?_))
theorem jN.mono : ∀ a0 a1 k, LeO (jN.f k a0 a1) (jN.f (k + 1) a0 a1) := by
 intro a0 a1 k
 have ih0 := jN.zF k
 unfold jN.f
 repeat' first
   | (with_reducible exact ih0 _ _ _ _)
   | (with_reducible exact LeO.refl _)
   | (with_reducible exact LeO.none _)
   | (with_reducible refine LeO.ite ?_ ?_)
   | (with_reducible refine LeO.bind ?_ (fun _ => ?_))
theorem jN.calls (k : Nat) (A0 : Option Addr) (c0 : Nat) (l0 : List Int) (A1 : Option Addr) (c1 : Nat) (l1 : List Int) (r : Bool) (w : World) (hr0 : Kd.C (Kd.int .u64) w A0 l0.length l0) (hc0 : l0.length ≤ c0) (hr1 : Kd.C (Kd.int .u64) w A1 l1.length l1) (hc1 : l1.length ≤ c1) (h : jN.f k l0 l1 = some r) :
  Calls Try.prog 91 #[.slice A0 l0.length c0, .slice A1 l1.length c1] w fun e w' => e = .returned (.bool r) ∧ zI w w' := by
 have HR0 := jA.mk hr0
 have HC0 := jA.mk hc0
 clear hr0 hc0
 have HR1 := jA.mk hr1
 have HC1 := jA.mk hc1
 clear hr1 hc1
 have H : (if (l0.length : Int) = (l1.length : Int) then (jN.l0 k l0 l1 (l0.length : Int) 0) else (some false)) = some r := h
 clear h
 by_cases c3 : (l0.length : Int) = (l1.length : Int)
 ·
  rw [if_pos c3] at H
  have c3b0 : ((l0.length : Int) == (l1.length : Int)) = true := beq_iff_eq.mpr c3
  have c3b1 : ((l0.length : Int) != (l1.length : Int)) = false := bne_eq_false_iff_eq.mpr c3
  have c3b2 : (l0.length == l1.length) = true := by first | simpa using c3 | (simp at c3 ⊢; omega)
  clear c3
  have H' := jA.mk H
  clear H
  go_enter Try.func91, Try.ntmps91
  go_wp2
  repeat (go_quiet (fail); try go_wp2)
  go_loopg [13] k (fun kq v13 w' => ∃ (x13_1 : Int), v13 = .int .i64 x13_1 ∧ jA (jN.l0 kq l0 l1 (l0.length : Int) x13_1 = some r) ∧ jA (kq ≤ k) ∧ zI w w')
  case atStart => exact ⟨(0), sd_, H', ⟨Nat.le_refl _⟩, by repeat (first | exact zI.refl _ | apply zI.step)⟩
  case round =>
   clear H'
   try clear c1
   try clear p2
   try clear c3
   try clear c3b0
   try clear c3b1
   try clear c3b2
   obtain ⟨x13_1, rfl, HA, HK1, ⟨m1, rfl⟩⟩ := hrel
   cases gk with
   | zero => exact absurd HA.out (by simp [jN.l0])
   | succ k1 =>
    have H := HA.out
    clear HA
    simp only [jN.l0] at H
    by_cases c4 : x13_1 < (l0.length : Int)
    ·
     rw [if_pos c4] at H
     have c4b0 : decide (x13_1 < (l0.length : Int)) = true := decide_eq_true c4
     clear c4
     by_cases c5 : 0 ≤ x13_1
     ·
      rw [if_pos c5] at H
      have c5b0 : decide (0 ≤ x13_1) = true := decide_eq_true c5
      clear c5
      by_cases c6 : x13_1 < (l0.length : Int)
      ·
       rw [if_pos c6] at H
       have c6b0 : decide (x13_1 < (l0.length : Int)) = true := decide_eq_true c6
       clear c6
       by_cases c7 : x13_1 < (l1.length : Int)
       ·
        rw [if_pos c7] at H
        have c7b0 : decide (x13_1 < (l1.length : Int)) = true := decide_eq_true c7
        clear c7
        by_cases c8 : (rd l0 x13_1) = (rd l1 x13_1)
        ·
         rw [if_pos c8] at H
         have c8b0 : ((rd l0 x13_1) == (rd l1 x13_1)) = true := beq_iff_eq.mpr c8
         have c8b1 : ((rd l0 x13_1) != (rd l1 x13_1)) = false := bne_eq_false_iff_eq.mpr c8
         clear c8
         have H' := jA.mk H
         clear H
         have p454 : 0 ≤ (x13_1 : Int) := of_decide_eq_true am_
         have q454 : x13_1 < (l0.length : Int) := of_decide_eq_true am_
         obtain ⟨ad454, e454, hx454_0⟩ := Kd.zG HR0.out x13_1 p454 q454
         cases e454
         replace p454 := eq_true p454
         replace q454 := eq_true q454
         have p455 : 0 ≤ (x13_1 : Int) := of_decide_eq_true am_
         have q455 : x13_1 < (l1.length : Int) := of_decide_eq_true am_
         obtain ⟨ad455, e455, hx455_0⟩ := Kd.zG HR1.out x13_1 p455 q455
         cases e455
         replace p455 := eq_true p455
         replace q455 := eq_true q455
         go_wp2
         repeat (go_quiet (fail); try go_wp2)
         go_roundg k1
         case measure => have := HK1.out; omega
         case rel => exact ⟨(wrap64 (x13_1 + 1)), sd_, H', ⟨by have := HK1.out; omega⟩, by repeat (first | exact zI.refl _ | apply zI.step)⟩
        ·
         rw [if_neg c8] at H
         have c8b0 : ((rd l0 x13_1) == (rd l1 x13_1)) = false := beq_eq_false_iff_ne.mpr c8
         have c8b1 : ((rd l0 x13_1) != (rd l1 x13_1)) = true := bne_iff_ne.mpr c8
         obtain rfl := Option.some.inj H
         have p454 : 0 ≤ (x13_1 : Int) := of_decide_eq_true am_
         have q454 : x13_1 < (l0.length : Int) := of_decide_eq_true am_
         obtain ⟨ad454, e454, hx454_0⟩ := Kd.zG HR0.out x13_1 p454 q454
         cases e454
         replace p454 := eq_true p454
         replace q454 := eq_true q454
         have p455 : 0 ≤ (x13_1 : Int) := of_decide_eq_true am_
         have q455 : x13_1 < (l1.length : Int) := of_decide_eq_true am_
         obtain ⟨ad455, e455, hx455_0⟩ := Kd.zG HR1.out x13_1 p455 q455
         cases e455
         replace p455 := eq_true p455
         replace q455 := eq_true q455
         go_wp2
         repeat (go_quiet (fail); try go_wp2)
         go_ret
         exact ⟨by first | rfl | (simp; done) | (simp [*]; done), by repeat (first | exact zI.refl _ | apply zI.step)⟩
       ·
        rw [if_neg c7] at H
        exact absurd H (by simp)
      ·
       rw [if_neg c6] at H
       exact absurd H (by simp)
     ·
      rw [if_neg c5] at H
      exact absurd H (by simp)
    ·
     rw [if_neg c4] at H
     have c4b0 : decide (x13_1 < (l0.length : Int)) = false := decide_eq_false c4
     clear c4
     obtain rfl := Option.some.inj H
     go_wp2
     repeat (go_quiet (fail); try go_wp2)
     go_ret
     exact ⟨by first | rfl | (simp; done) | (simp [*]; done), by repeat (first | exact zI.refl _ | apply zI.step)⟩
 ·
  rw [if_neg c3] at H
  have c3b0 : ((l0.length : Int) == (l1.length : Int)) = false := beq_eq_false_iff_ne.mpr c3
  have c3b1 : ((l0.length : Int) != (l1.length : Int)) = true := bne_iff_ne.mpr c3
  have c3b2 : (l0.length == l1.length) = false := by first | simpa using c3 | (simp at c3 ⊢; omega)
  obtain rfl := Option.some.inj H
  go_enter Try.func91, Try.ntmps91
  go_wp2
  repeat (go_quiet (fail); try go_wp2)
  go_ret
  exact ⟨by first | rfl | (simp; done) | (simp [*]; done), by repeat (first | exact zI.refl _ | apply zI.step)⟩

/-! ### zN: function 56 -/
def zN.f (k : Nat) (a0_0 : Bool) (l0_1 : List Int) (l0_2 : List Int) (a1_0 : Bool) (l1_1 : List Int) (l1_2 : List Int) : Option (Bool) := if (a0_0 == a1_0) = true then ((jN.f k l0_1 l1_1).bind fun t458 => (if t458 = true then ((jN.f k l0_2 l1_2).bind fun t459 => (some t459)) else (some false))) else (some false)
theorem zN.mono : ∀ a0 a1 a2 a3 a4 a5 k, LeO (zN.f k a0 a1 a2 a3 a4 a5) (zN.f (k + 1) a0 a1 a2 a3 a4 a5) := by
 intro a0 a1 a2 a3 a4 a5 k
 unfold zN.f
 repeat' first
   | (with_reducible exact jN.mono _ _ _)
   | (with_reducible exact LeO.refl _)
   | (with_reducible exact LeO.none _)
   | (with_reducible refine LeO.ite ?_ ?_)
   | (with_reducible refine LeO.bind ?_ (fun _ => ?_))
theorem zN.calls (k : Nat) (a0_0 : Bool) (A0_1 : Option Addr) (c0_1 : Nat) (l0_1 : List Int) (A0_2 : Option Addr) (c0_2 : Nat) (l0_2 : List Int) (a1_0 : Bool) (A1_1 : Option Addr) (c1_1 : Nat) (l1_1 : List Int) (A1_2 : Option Addr) (c1_2 : Nat) (l1_2 : List Int) (r : Bool) (w : World) (hr0_1 : Kd.C (Kd.int .u64) w A0_1 l0_1.length l0_1) (hc0_1 : l0_1.length ≤ c0_1) (hr0_2 : Kd.C (Kd.int .u64) w A0_2 l0_2.length l0_2) (hc0_2 : l0_2.length ≤ c0_2) (hr1_1 : Kd.C (Kd.int .u64) w A1_1 l1_1.length l1_1) (hc1_1 : l1_1.length ≤ c1_1) (hr1_2 : Kd.C (Kd.int .u64) w A1_2 l1_2.length l1_2) (hc1_2 : l1_2.length ≤ c1_2) (h : zN.f k a0_0 l0_1 l0_2 a1_0 l1_1 l1_2 = some r) :
  Calls Try.prog 56 #[.agg #[.bool a0_0, .slice A0_1 l0_1.length c0_1, .slice A0_2 l0_2.length c0_2], .agg #[.bool a1_0, .slice A1_1 l1_1.length c1_1, .slice A1_2 l1_2.length c1_2]] w fun e w' => e = .returned (.bool r) ∧ Below w.heap.size w w' := by
 have hu44 := Try.underlying44
 have HR0_1 := jA.mk hr0_1
 have HC0_1 := jA.mk hc0_1
 clear hr0_1 hc0_1
 have HR0_2 := jA.mk hr0_2
 have HC0_2 := jA.mk hc0_2
 clear hr0_2 hc0_2
 have HR1_1 := jA.mk hr1_1
 have HC1_1 := jA.mk hc1_1
 clear hr1_1 hc1_1
 have HR1_2 := jA.mk hr1_2
 have HC1_2 := jA.mk hc1_2
 clear hr1_2 hc1_2
 have HB := jA.mk (Below.refl w.heap.size w)
 have H : (if (a0_0 == a1_0) = true then ((jN.f k l0_1 l1_1).bind fun t458 => (if t458 = true then ((jN.f k l0_2 l1_2).bind fun t459 => (some t459)) else (some false))) else (some false)) = some r := h
 clear h
 by_cases c3 : (a0_0 == a1_0) = true
 ·
  rw [if_pos c3] at H
  have c3b0 : (a0_0 == a1_0) = true := c3
  (try (have c3b1 : decide (a0_0 = a1_0) = true := by simpa using c3))
  (try (have c3b2 : (a0_0 == a1_0) = true := by simpa using c3))
  clear c3
  replace H := Option.bind_eq_some_iff.mp H
  obtain ⟨t458, A40, H⟩ := H
  replace H : (if t458 = true then ((jN.f k l0_2 l1_2).bind fun t459 => (some t459)) else (some false)) = some r := H
  have A4 := jA.mk A40
  clear A40
  by_cases c5 : t458 = true
  ·
   subst c5
   have H1 : ((jN.f k l0_2 l1_2).bind fun t459 => (some t459)) = some r := by rw [if_pos rfl] at H; exact H
   clear H
   have H := H1
   clear H1
   replace H := Option.bind_eq_some_iff.mp H
   obtain ⟨t459, A60, H⟩ := H
   replace H : (some t459) = some r := H
   have A6 := jA.mk A60
   clear A60
   obtain rfl := Option.some.inj H
   go_enter Try.func56, Try.ntmps56
   go_wp2_with (first | ((with_reducible refine jd (N := 2) rfl ?_); refine vK ?hg (N := 2) ?hd (cs := #[.bool a0_0, .slice A0_1 l0_1.length c0_1, .slice A0_2 l0_2.length c0_2]) (t := 44) ?hr ?_; (case hd => rfl); (case hg => rfl); (case hr => exact gs_); intro gb456 hg w7 hbox hb; have n0_ := jA.mk (jE (bb_ HB) hb); have n1_ := jA.mk (hbox); have n2_ := jA.mk ((by rw [hg]; exact (jC (bb_ HB)) : w.heap.size ≤ gb456)); have n3_ := jA.mk ((by rw [hg]; exact (jC (bb_ HB)) : w.heap.size ≤ gb456)); clear HB; have HB := n0_; have BK456 := n1_; have GW456 := n2_; have GE456 := n3_; clear n0_ n1_ n2_ n3_ hb hbox hg) | ((with_reducible refine jd (N := 3) rfl ?_); refine vK ?hg (N := 3) ?hd (cs := #[.bool a1_0, .slice A1_1 l1_1.length c1_1, .slice A1_2 l1_2.length c1_2]) (t := 44) ?hr ?_; (case hd => rfl); (case hg => rfl); (case hr => exact gs_); intro gb457 hg w8 hbox hb; have n0_ := jA.mk (bl_ BK456 hb); have n1_ := jA.mk (jE (bb1_ HB GE456) hb); have n2_ := jA.mk (hbox); have n3_ := jA.mk ((by rw [hg]; exact (jC (bb1_ HB GE456)) : w.heap.size ≤ gb457)); have n4_ := jA.mk ((by rw [hg]; exact (jC (bb1_ HB GE456)) : w.heap.size ≤ gb457)); have n5_ := jA.mk ((by rw [hg]; exact Nat.ne_of_lt (zK (g := gb456) (o := .cells #[.bool a0_0, .slice A0_1 l0_1.length c0_1, .slice A0_2 l0_2.length c0_2] 44 (0, 0)) (kb_ BK456)) : gb456 ≠ gb457)); have n6_ := jA.mk ((by rw [hg]; exact Nat.ne_of_gt (zK (g := gb456) (o := .cells #[.bool a0_0, .slice A0_1 l0_1.length c0_1, .slice A0_2 l0_2.length c0_2] 44 (0, 0)) (kb_ BK456)) : gb457 ≠ gb456)); clear BK456 HB; have BK456 := n0_; have HB := n1_; have BK457 := n2_; have GW457 := n3_; have GE457 := n4_; have NB456_457 := n5_; have NB457_456 := n6_; clear n0_ n1_ n2_ n3_ n4_ n5_ n6_ hb hbox hg; have hnb9 := NB456_457.out; have hnc9 := NB457_456.out; have hcz10_0 : w8.cell? ⟨gb456, 0, none⟩ = some (.bool a0_0) := (jB BK456.out 0).trans rfl; have hcz10_1 : w8.cell? ⟨gb456, 1, none⟩ = some (.slice A0_1 l0_1.length c0_1) := (jB BK456.out 1).trans rfl; have hcz10_2 : w8.cell? ⟨gb456, 2, none⟩ = some (.slice A0_2 l0_2.length c0_2) := (jB BK456.out 2).trans rfl; have hfz10_0 := jD BK456.out 0; have hfz10_1 := jD BK456.out 1; have hfz10_2 := jD BK456.out 2; have hcz11_0 : w8.cell? ⟨gb457, 0, none⟩ = some (.bool a1_0) := (jB BK457.out 0).trans rfl; have hcz11_1 : w8.cell? ⟨gb457, 1, none⟩ = some (.slice A1_1 l1_1.length c1_1) := (jB BK457.out 1).trans rfl; have hcz11_2 : w8.cell? ⟨gb457, 2, none⟩ = some (.slice A1_2 l1_2.length c1_2) := (jB BK457.out 2).trans rfl; have hfz11_0 := jD BK457.out 0; have hfz11_1 := jD BK457.out 1; have hfz11_2 := jD BK457.out 2) | ((with_reducible refine jd (N := 15) rfl ?_); refine vD (by first | rfl | kernel_rfl) ?_; dsimp only; (with_reducible refine jH (f := 91) rfl ?_); refine jq (some 15) rfl rfl Try.func91 kr_ rfl #[.slice A0_1 l0_1.length c0_1, .slice A1_1 l1_1.length c1_1] rfl mt_ ?_; (with_reducible refine (jN.calls k _ _ l0_1 _ _ l1_1 true _ ?side1 ?side2 ?side3 ?side4 A4.out).mono ?_); (case side1 => exact cc_ (Kd.jR HR0_1.out HB.out)); (case side2 => exact HC0_1.out); (case side3 => exact cc_ (Kd.jR HR1_1.out HB.out)); (case side4 => exact HC1_1.out); rintro e w' ⟨rfl, ⟨nd, rfl⟩⟩; refine ⟨_, rfl, ?_⟩) | ((with_reducible refine jd (N := 22) rfl ?_); refine vD (by first | rfl | kernel_rfl) ?_; dsimp only; (with_reducible refine jH (f := 91) rfl ?_); refine jq (some 22) rfl rfl Try.func91 kr_ rfl #[.slice A0_2 l0_2.length c0_2, .slice A1_2 l1_2.length c1_2] rfl mt_ ?_; (with_reducible refine (jN.calls k _ _ l0_2 _ _ l1_2 t459 _ ?side1 ?side2 ?side3 ?side4 A6.out).mono ?_); (case side1 => repeat (first | exact (Kd.jR HR0_2.out (bb2_ HB GE456 GE457)) | (with_reducible refine Kd.zm ?_ _) | (with_reducible refine Kd.qI ?_ _) | (with_reducible refine Kd.qw ?_))); (case side2 => exact HC0_2.out); (case side3 => repeat (first | exact (Kd.jR HR1_2.out (bb2_ HB GE456 GE457)) | (with_reducible refine Kd.zm ?_ _) | (with_reducible refine Kd.qI ?_ _) | (with_reducible refine Kd.qw ?_))); (case side4 => exact HC1_2.out); rintro e w' ⟨rfl, ⟨nd, rfl⟩⟩; refine ⟨_, rfl, ?_⟩))
   go_ret
   exact ⟨ew_, (bb2_ HB GE456 GE457)⟩
  ·
   replace c5 := Bool.eq_false_iff.mpr c5
   subst c5
   have H1 : (some false) = some r := by rw [if_neg (show ¬ (false = true) by decide)] at H; exact H
   clear H
   have H := H1
   clear H1
   obtain rfl := Option.some.inj H
   go_enter Try.func56, Try.ntmps56
   go_wp2_with (first | ((with_reducible refine jd (N := 2) rfl ?_); refine vK ?hg (N := 2) ?hd (cs := #[.bool a0_0, .slice A0_1 l0_1.length c0_1, .slice A0_2 l0_2.length c0_2]) (t := 44) ?hr ?_; (case hd => rfl); (case hg => rfl); (case hr => exact gs_); intro gb456 hg w12 hbox hb; have n0_ := jA.mk (jE (bb_ HB) hb); have n1_ := jA.mk (hbox); have n2_ := jA.mk ((by rw [hg]; exact (jC (bb_ HB)) : w.heap.size ≤ gb456)); have n3_ := jA.mk ((by rw [hg]; exact (jC (bb_ HB)) : w.heap.size ≤ gb456)); clear HB; have HB := n0_; have BK456 := n1_; have GW456 := n2_; have GE456 := n3_; clear n0_ n1_ n2_ n3_ hb hbox hg) | ((with_reducible refine jd (N := 3) rfl ?_); refine vK ?hg (N := 3) ?hd (cs := #[.bool a1_0, .slice A1_1 l1_1.length c1_1, .slice A1_2 l1_2.length c1_2]) (t := 44) ?hr ?_; (case hd => rfl); (case hg => rfl); (case hr => exact gs_); intro gb457 hg w13 hbox hb; have n0_ := jA.mk (bl_ BK456 hb); have n1_ := jA.mk (jE (bb1_ HB GE456) hb); have n2_ := jA.mk (hbox); have n3_ := jA.mk ((by rw [hg]; exact (jC (bb1_ HB GE456)) : w.heap.size ≤ gb457)); have n4_ := jA.mk ((by rw [hg]; exact (jC (bb1_ HB GE456)) : w.heap.size ≤ gb457)); have n5_ := jA.mk ((by rw [hg]; exact Nat.ne_of_lt (zK (g := gb456) (o := .cells #[.bool a0_0, .slice A0_1 l0_1.length c0_1, .slice A0_2 l0_2.length c0_2] 44 (0, 0)) (kb_ BK456)) : gb456 ≠ gb457)); have n6_ := jA.mk ((by rw [hg]; exact Nat.ne_of_gt (zK (g := gb456) (o := .cells #[.bool a0_0, .slice A0_1 l0_1.length c0_1, .slice A0_2 l0_2.length c0_2] 44 (0, 0)) (kb_ BK456)) : gb457 ≠ gb456)); clear BK456 HB; have BK456 := n0_; have HB := n1_; have BK457 := n2_; have GW457 := n3_; have GE457 := n4_; have NB456_457 := n5_; have NB457_456 := n6_; clear n0_ n1_ n2_ n3_ n4_ n5_ n6_ hb hbox hg; have hnb14 := NB456_457.out; have hnc14 := NB457_456.out; have hcz15_0 : w13.cell? ⟨gb456, 0, none⟩ = some (.bool a0_0) := (jB BK456.out 0).trans rfl; have hcz15_1 : w13.cell? ⟨gb456, 1, none⟩ = some (.slice A0_1 l0_1.length c0_1) := (jB BK456.out 1).trans rfl; have hcz15_2 : w13.cell? ⟨gb456, 2, none⟩ = some (.slice A0_2 l0_2.length c0_2) := (jB BK456.out 2).trans rfl; have hfz15_0 := jD BK456.out 0; have hfz15_1 := jD BK456.out 1; have hfz15_2 := jD BK456.out 2; have hcz16_0 : w13.cell? ⟨gb457, 0, none⟩ = some (.bool a1_0) := (jB BK457.out 0).trans rfl; have hcz16_1 : w13.cell? ⟨gb457, 1, none⟩ = some (.slice A1_1 l1_1.length c1_1) := (jB BK457.out 1).trans rfl; have hcz16_2 : w13.cell? ⟨gb457, 2, none⟩ = some (.slice A1_2 l1_2.length c1_2) := (jB BK457.out 2).trans rfl; have hfz16_0 := jD BK457.out 0; have hfz16_1 := jD BK457.out 1; have hfz16_2 := jD BK457.out 2) | ((with_reducible refine jd (N := 15) rfl ?_); refine vD (by first | rfl | kernel_rfl) ?_; dsimp only; (with_reducible refine jH (f := 91) rfl ?_); refine jq (some 15) rfl rfl Try.func91 kr_ rfl #[.slice A0_1 l0_1.length c0_1, .slice A1_1 l1_1.length c1_1] rfl mt_ ?_; (with_reducible refine (jN.calls k _ _ l0_1 _ _ l1_1 false _ ?side1 ?side2 ?side3 ?side4 A4.out).mono ?_); (case side1 => exact cc_ (Kd.jR HR0_1.out HB.out)); (case side2 => exact HC0_1.out); (case side3 => exact cc_ (Kd.jR HR1_1.out HB.out)); (case side4 => exact HC1_1.out); rintro e w' ⟨rfl, ⟨nd, rfl⟩⟩; refine ⟨_, rfl, ?_⟩))
   go_ret
   exact ⟨ew_, (bb2_ HB GE456 GE457)⟩
 ·
  rw [if_neg c3] at H
  have c3b0 : (a0_0 == a1_0) = false := by simpa using c3
  (try (have c3b1 : decide (a0_0 = a1_0) = false := by simpa using c3))
  (try (have c3b2 : (a0_0 == a1_0) = false := by simpa using c3))
  (try (have c3b3 : ¬ (a0_0 = a1_0) := by simpa using c3))
  clear c3
  obtain rfl := Option.some.inj H
  go_enter Try.func56, Try.ntmps56
  go_wp2_with (first | ((with_reducible refine jd (N := 2) rfl ?_); refine vK ?hg (N := 2) ?hd (cs := #[.bool a0_0, .slice A0_1 l0_1.length c0_1, .slice A0_2 l0_2.length c0_2]) (t := 44) ?hr ?_; (case hd => rfl); (case hg => rfl); (case hr => exact gs_); intro gb456 hg w17 hbox hb; have n0_ := jA.mk (jE (bb_ HB) hb); have n1_ := jA.mk (hbox); have n2_ := jA.mk ((by rw [hg]; exact (jC (bb_ HB)) : w.heap.size ≤ gb456)); have n3_ := jA.mk ((by rw [hg]; exact (jC (bb_ HB)) : w.heap.size ≤ gb456)); clear HB; have HB := n0_; have BK456 := n1_; have GW456 := n2_; have GE456 := n3_; clear n0_ n1_ n2_ n3_ hb hbox hg) | ((with_reducible refine jd (N := 3) rfl ?_); refine vK ?hg (N := 3) ?hd (cs := #[.bool a1_0, .slice A1_1 l1_1.length c1_1, .slice A1_2 l1_2.length c1_2]) (t := 44) ?hr ?_; (case hd => rfl); (case hg => rfl); (case hr => exact gs_); intro gb457 hg w18 hbox hb; have n0_ := jA.mk (bl_ BK456 hb); have n1_ := jA.mk (jE (bb1_ HB GE456) hb); have n2_ := jA.mk (hbox); have n3_ := jA.mk ((by rw [hg]; exact (jC (bb1_ HB GE456)) : w.heap.size ≤ gb457)); have n4_ := jA.mk ((by rw [hg]; exact (jC (bb1_ HB GE456)) : w.heap.size ≤ gb457)); have n5_ := jA.mk ((by rw [hg]; exact Nat.ne_of_lt (zK (g := gb456) (o := .cells #[.bool a0_0, .slice A0_1 l0_1.length c0_1, .slice A0_2 l0_2.length c0_2] 44 (0, 0)) (kb_ BK456)) : gb456 ≠ gb457)); have n6_ := jA.mk ((by rw [hg]; exact Nat.ne_of_gt (zK (g := gb456) (o := .cells #[.bool a0_0, .slice A0_1 l0_1.length c0_1, .slice A0_2 l0_2.length c0_2] 44 (0, 0)) (kb_ BK456)) : gb457 ≠ gb456)); clear BK456 HB; have BK456 := n0_; have HB := n1_; have BK457 := n2_; have GW457 := n3_; have GE457 := n4_; have NB456_457 := n5_; have NB457_456 := n6_; clear n0_ n1_ n2_ n3_ n4_ n5_ n6_ hb hbox hg; have hnb19 := NB456_457.out; have hnc19 := NB457_456.out; have hcz20_0 : w18.cell? ⟨gb456, 0, none⟩ = some (.bool a0_0) := (jB BK456.out 0).trans rfl; have hcz20_1 : w18.cell? ⟨gb456, 1, none⟩ = some (.slice A0_1 l0_1.length c0_1) := (jB BK456.out 1).trans rfl; have hcz20_2 : w18.cell? ⟨gb456, 2, none⟩ = some (.slice A0_2 l0_2.length c0_2) := (jB BK456.out 2).trans rfl; have hfz20_0 := jD BK456.out 0; have hfz20_1 := jD BK456.out 1; have hfz20_2 := jD BK456.out 2; have hcz21_0 : w18.cell? ⟨gb457, 0, none⟩ = some (.bool a1_0) := (jB BK457.out 0).trans rfl; have hcz21_1 : w18.cell? ⟨gb457, 1, none⟩ = some (.slice A1_1 l1_1.length c1_1) := (jB BK457.out 1).trans rfl; have hcz21_2 : w18.cell? ⟨gb457, 2, none⟩ = some (.slice A1_2 l1_2.length c1_2) := (jB BK457.out 2).trans rfl; have hfz21_0 := jD BK457.out 0; have hfz21_1 := jD BK457.out 1; have hfz21_2 := jD BK457.out 2))
  go_ret
  exact ⟨ew_, (bb2_ HB GE456 GE457)⟩

end Go.Proofs.Ytijgeonhbmgikaa.PORatioSigns
