-- printed (pr.py)
import Derived.Test.YtijgeonhbmgikaaPORatioMakesx8
namespace Go.Proofs.Ytijgeonhbmgikaa.PORatioMakes
open Go.RowKit Go.Proofs.YtijgeonhbmgikaaN Go.Proofs.YtijgeonhbmgikaaW.PrintWords Go.Proofs.YtijgeonhbmgikaaW.PrintLast Go.Proofs.YtijgeonhbmgikaaW.PrintMore
attribute [local go_sem] qJ qH qd qc zo zn qI qG
set_option maxHeartbeats 8000000
set_option maxRecDepth 100000
set_option linter.unusedVariables false
set_option linter.unusedSimpArgs false
def jv.l0 : Nat → List Int → List Int → Int → Option (Bool)
 | 0, _, _, _ => none
 | k + 1, x0, x1, x5 => if x5 < (x0.length : Int) then (if 0 ≤ x5 then (if x5 < (x1.length : Int) then (if (rd x0 x5) = (rd x1 x5) then (jv.l0 k x0 x1 (wrap64 (x5 + 1))) else (some false)) else (none)) else (none)) else (some true)
def jv.f (k : Nat) (l0 : List Int) (l1 : List Int) : Option (Bool) := if (l0.length : Int) = (l1.length : Int) then (jv.l0 k l0 l1 0) else (some false)
theorem jv.vQ : ∀ k, (∀ y0 y1 y2, LeO (jv.l0 k y0 y1 y2) (jv.l0 (k + 1) y0 y1 y2))
 | 0 => fun _ _ _ r h => by simp [jv.l0] at h
 | k + 1 => by
  have ih0 := jv.vQ k
  ·
   intro y0 y1 y2
   unfold jv.l0
   repeat' first
   | (with_reducible exact ih0 _ _ _)
   | (with_reducible exact LeO.refl _)
   | (with_reducible exact LeO.none _)
   | (with_reducible refine LeO.ite ?_ ?_)
   | (with_reducible refine LeO.bind ?_ (fun _ => ?_))
theorem jv.mono : ∀ a0 a1 k, LeO (jv.f k a0 a1) (jv.f (k + 1) a0 a1) := by
 intro a0 a1 k
 have ih0 := jv.vQ k
 unfold jv.f
 repeat' first
   | (with_reducible exact ih0 _ _ _)
   | (with_reducible exact LeO.refl _)
   | (with_reducible exact LeO.none _)
   | (with_reducible refine LeO.ite ?_ ?_)
   | (with_reducible refine LeO.bind ?_ (fun _ => ?_))
theorem jv.calls (k : Nat) (A0 : Option Addr) (c0 : Nat) (l0 : List Int) (A1 : Option Addr) (c1 : Nat) (l1 : List Int) (r : Bool) (w : World) (hr0 : Kd.C (Kd.int .u64) w A0 l0.length l0) (hc0 : l0.length ≤ c0) (hr1 : Kd.C (Kd.int .u64) w A1 l1.length l1) (hc1 : l1.length ≤ c1) (h : jv.f k l0 l1 = some r) :
  Calls Try.prog 85 #[.slice A0 l0.length c0, .slice A1 l1.length c1] w fun e w' => e = .returned (.bool r) ∧ zl w w' := by
 have HR0 := jA.mk hr0
 have HC0 := jA.mk hc0
 clear hr0 hc0
 have HR1 := jA.mk hr1
 have HC1 := jA.mk hc1
 clear hr1 hc1
 have H : (if (l0.length : Int) = (l1.length : Int) then (jv.l0 k l0 l1 0) else (some false)) = some r := h
 clear h
 by_cases c3 : (l0.length : Int) = (l1.length : Int)
 ·
  rw [if_pos c3] at H
  have c3b0 := beq_iff_eq.mpr c3
  have c3b1 := bne_eq_false_iff_eq.mpr c3
  have c3b2 : (l0.length == l1.length) = true := by first | simpa using c3 | (simp at c3 ⊢; omega)
  clear c3
  have H' := jA.mk H
  clear H
  go_enter Try.func85, Try.ntmps85
  go_wp2
  repeat (go_quiet (fail); try go_wp2)
  go_loopg [5] k (fun kq v5 w' => ∃ (x5_1 : Int), v5 = .int .i64 x5_1 ∧ jA (jv.l0 kq l0 l1 x5_1 = some r) ∧ jA (kq ≤ k) ∧ zl w w')
  case atStart => exact ⟨(0), sd_, H', ⟨Nat.le_refl _⟩, by repeat (first | exact zl.refl _ | apply zl.step)⟩
  case round =>
   clear H'
   try clear c1
   try clear p2
   try clear c3
   try clear c3b0
   try clear c3b1
   try clear c3b2
   obtain ⟨x5_1, rfl, HA, HK1, ⟨m1, rfl⟩⟩ := hrel
   cases gk with
   | zero => exact absurd HA.out (by simp [jv.l0])
   | succ k1 =>
    have H := HA.out
    clear HA
    simp only [jv.l0] at H
    by_cases c4 : x5_1 < (l0.length : Int)
    ·
     rw [if_pos c4] at H
     have c4b0 := decide_eq_true c4
     clear c4
     by_cases c5 : 0 ≤ x5_1
     ·
      rw [if_pos c5] at H
      have c5b0 := decide_eq_true c5
      clear c5
      by_cases c6 : x5_1 < (l1.length : Int)
      ·
       rw [if_pos c6] at H
       have c6b0 := decide_eq_true c6
       clear c6
       by_cases c7 : (rd l0 x5_1) = (rd l1 x5_1)
       ·
        rw [if_pos c7] at H
        have c7b0 := beq_iff_eq.mpr c7
        have c7b1 := bne_eq_false_iff_eq.mpr c7
        clear c7
        have H' := jA.mk H
        clear H
        have p276 : 0 ≤ (x5_1 : Int) := of_decide_eq_true am_
        have q276 : x5_1 < (l0.length : Int) := of_decide_eq_true am_
        obtain ⟨ad276, e276, hx276_0⟩ := Kd.zJ HR0.out x5_1 p276 q276
        cases e276
        replace p276 := eq_true p276
        replace q276 := eq_true q276
        have p277 : 0 ≤ (x5_1 : Int) := of_decide_eq_true am_
        have q277 : x5_1 < (l1.length : Int) := of_decide_eq_true am_
        obtain ⟨ad277, e277, hx277_0⟩ := Kd.zJ HR1.out x5_1 p277 q277
        cases e277
        replace p277 := eq_true p277
        replace q277 := eq_true q277
        go_wp2
        repeat (go_quiet (fail); try go_wp2)
        go_roundg k1
        case measure => have := HK1.out; omega
        case rel => exact ⟨(wrap64 (x5_1 + 1)), sd_, H', ⟨by have := HK1.out; omega⟩, by repeat (first | exact zl.refl _ | apply zl.step)⟩
       ·
        rw [if_neg c7] at H
        have c7b0 := beq_eq_false_iff_ne.mpr c7
        have c7b1 := bne_iff_ne.mpr c7
        obtain rfl := Option.some.inj H
        have p276 : 0 ≤ (x5_1 : Int) := of_decide_eq_true am_
        have q276 : x5_1 < (l0.length : Int) := of_decide_eq_true am_
        obtain ⟨ad276, e276, hx276_0⟩ := Kd.zJ HR0.out x5_1 p276 q276
        cases e276
        replace p276 := eq_true p276
        replace q276 := eq_true q276
        have p277 : 0 ≤ (x5_1 : Int) := of_decide_eq_true am_
        have q277 : x5_1 < (l1.length : Int) := of_decide_eq_true am_
        obtain ⟨ad277, e277, hx277_0⟩ := Kd.zJ HR1.out x5_1 p277 q277
        cases e277
        replace p277 := eq_true p277
        replace q277 := eq_true q277
        go_wp2
        repeat (go_quiet (fail); try go_wp2)
        go_ret
        exact ⟨by first | rfl | (simp; done) | (simp [*]; done), by repeat (first | exact zl.refl _ | apply zl.step)⟩
      ·
       rw [if_neg c6] at H
       exact absurd H (by simp)
     ·
      rw [if_neg c5] at H
      exact absurd H (by simp)
    ·
     rw [if_neg c4] at H
     have c4b0 := decide_eq_false c4
     clear c4
     obtain rfl := Option.some.inj H
     go_wp2
     repeat (go_quiet (fail); try go_wp2)
     go_ret
     exact ⟨by first | rfl | (simp; done) | (simp [*]; done), by repeat (first | exact zl.refl _ | apply zl.step)⟩
 ·
  rw [if_neg c3] at H
  have c3b0 := beq_eq_false_iff_ne.mpr c3
  have c3b1 := bne_iff_ne.mpr c3
  have c3b2 : (l0.length == l1.length) = false := by first | simpa using c3 | (simp at c3 ⊢; omega)
  obtain rfl := Option.some.inj H
  go_enter Try.func85, Try.ntmps85
  go_wp2
  repeat (go_quiet (fail); try go_wp2)
  go_ret
  exact ⟨by first | rfl | (simp; done) | (simp [*]; done), by repeat (first | exact zl.refl _ | apply zl.step)⟩
def vI.f (k : Nat) (l0 : List Int) (l1 : List Int) : Option (Bool) := (jv.f k l0 l1).bind fun t278 => (some t278)
theorem vI.mono : ∀ a0 a1 k, LeO (vI.f k a0 a1) (vI.f (k + 1) a0 a1) := by
 intro a0 a1 k
 unfold vI.f
 repeat' first
   | (with_reducible exact jv.mono _ _ _)
   | (with_reducible exact LeO.refl _)
   | (with_reducible exact LeO.none _)
   | (with_reducible refine LeO.ite ?_ ?_)
   | (with_reducible refine LeO.bind ?_ (fun _ => ?_))
theorem vI.calls (k : Nat) (A0 : Option Addr) (c0 : Nat) (l0 : List Int) (A1 : Option Addr) (c1 : Nat) (l1 : List Int) (r : Bool) (w : World) (hr0 : Kd.C (Kd.int .u64) w A0 l0.length l0) (hc0 : l0.length ≤ c0) (hr1 : Kd.C (Kd.int .u64) w A1 l1.length l1) (hc1 : l1.length ≤ c1) (h : vI.f k l0 l1 = some r) :
  Calls Try.prog 47 #[.slice A0 l0.length c0, .slice A1 l1.length c1] w fun e w' => e = .returned (.bool r) ∧ zl w w' := by
 have HR0 := jA.mk hr0
 have HC0 := jA.mk hc0
 clear hr0 hc0
 have HR1 := jA.mk hr1
 have HC1 := jA.mk hc1
 clear hr1 hc1
 have H : ((jv.f k l0 l1).bind fun t278 => (some t278)) = some r := h
 clear h
 replace H := ob_ H
 obtain ⟨t278, A30, H⟩ := H
 replace H : (some t278) = some r := H
 have A3 := jA.mk A30
 clear A30
 obtain rfl := Option.some.inj H
 go_enter Try.func47, Try.ntmps47
 go_wp2_with (first | ((with_reducible refine jD (f := 85) rfl ?_); refine gl_ (some 7) Try.func85 #[.slice A0 l0.length c0, .slice A1 l1.length c1] ?_; (with_reducible refine (jv.calls k _ _ l0 _ _ l1 t278 _ ?side1 ?side2 ?side3 ?side4 A3.out).mono ?_); (case side1 => exact cc_ HR0.out); (case side2 => exact HC0.out); (case side3 => exact cc_ HR1.out); (case side4 => exact HC1.out); rintro e w' ⟨rfl, ⟨nd, rfl⟩⟩; refine ⟨_, rfl, ?_⟩))
 go_ret
 exact ⟨by first | rfl | (simp; done) | (simp [*]; done), by repeat (first | exact zl.refl _ | apply zl.step)⟩
def jy.f (k : Nat) (a0_0 : Bool) (l0_1 : List Int) (l0_2 : List Int) (a1_0 : Bool) (l1_1 : List Int) (l1_2 : List Int) : Option (Bool) := if (a0_0 == a1_0) = true then ((vI.f k l0_1 l1_1).bind fun t281 => (if t281 = true then ((vI.f k l0_2 l1_2).bind fun t282 => (some t282)) else (some false))) else (some false)
theorem jy.mono : ∀ a0 a1 a2 a3 a4 a5 k, LeO (jy.f k a0 a1 a2 a3 a4 a5) (jy.f (k + 1) a0 a1 a2 a3 a4 a5) := by
 intro a0 a1 a2 a3 a4 a5 k
 unfold jy.f
 repeat' first
   | (with_reducible exact vI.mono _ _ _)
   | (with_reducible exact LeO.refl _)
   | (with_reducible exact LeO.none _)
   | (with_reducible refine LeO.ite ?_ ?_)
   | (with_reducible refine LeO.bind ?_ (fun _ => ?_))
theorem jy.calls (k : Nat) (a0_0 : Bool) (A0_1 : Option Addr) (c0_1 : Nat) (l0_1 : List Int) (A0_2 : Option Addr) (c0_2 : Nat) (l0_2 : List Int) (a1_0 : Bool) (A1_1 : Option Addr) (c1_1 : Nat) (l1_1 : List Int) (A1_2 : Option Addr) (c1_2 : Nat) (l1_2 : List Int) (r : Bool) (w : World) (hr0_1 : Kd.C (Kd.int .u64) w A0_1 l0_1.length l0_1) (hc0_1 : l0_1.length ≤ c0_1) (hr0_2 : Kd.C (Kd.int .u64) w A0_2 l0_2.length l0_2) (hc0_2 : l0_2.length ≤ c0_2) (hr1_1 : Kd.C (Kd.int .u64) w A1_1 l1_1.length l1_1) (hc1_1 : l1_1.length ≤ c1_1) (hr1_2 : Kd.C (Kd.int .u64) w A1_2 l1_2.length l1_2) (hc1_2 : l1_2.length ≤ c1_2) (h : jy.f k a0_0 l0_1 l0_2 a1_0 l1_1 l1_2 = some r) :
  Calls Try.prog 26 #[.agg #[.bool a0_0, .slice A0_1 l0_1.length c0_1, .slice A0_2 l0_2.length c0_2], .agg #[.bool a1_0, .slice A1_1 l1_1.length c1_1, .slice A1_2 l1_2.length c1_2]] w fun e w' => e = .returned (.bool r) ∧ Below w.heap.size w w' := by
 have hu44 := Try.underlying44
 have HR0_1 := jA.mk hr0_1
 have HC0_1 := jA.mk hc0_1
 clear hr0_1 hc0_1
 have HR0_2 := jA.mk hr0_2
 have HC0_2 := jA.mk hc0_2
 clear hr0_2 hc0_2
 have HR1_1 := jA.mk hr1_1
 have HC1_1 := jA.mk hc1_1
 clear hr1_1 hc1_1
 have HR1_2 := jA.mk hr1_2
 have HC1_2 := jA.mk hc1_2
 clear hr1_2 hc1_2
 have HB := jA.mk (Below.refl w.heap.size w)
 have H : (if (a0_0 == a1_0) = true then ((vI.f k l0_1 l1_1).bind fun t281 => (if t281 = true then ((vI.f k l0_2 l1_2).bind fun t282 => (some t282)) else (some false))) else (some false)) = some r := h
 clear h
 by_cases c3 : (a0_0 == a1_0) = true
 ·
  rw [if_pos c3] at H
  have c3b0 : (a0_0 == a1_0) = true := c3
  (try (have c3b1 : decide (a0_0 = a1_0) = true := by simpa using c3))
  (try (have c3b2 : (a0_0 == a1_0) = true := by simpa using c3))
  clear c3
  obtain ⟨t281, A4, H⟩ := oc_ H
  try dsimp only at H
  by_cases c5 : t281 = true
  ·
   subst c5
   replace H := ip_ H
   replace H := ob_ H
   obtain ⟨t282, A60, H⟩ := H
   replace H : (some t282) = some r := H
   have A6 := jA.mk A60
   clear A60
   obtain rfl := Option.some.inj H
   go_enter Try.func26, Try.ntmps26
   go_wp2_with (first | ((with_reducible refine jW (N := 2) rfl ?_); refine bx_ 2 #[.bool a0_0, .slice A0_1 l0_1.length c0_1, .slice A0_2 l0_2.length c0_2] 44 ?_; intro gb279 hg w7 hbox hb; have BK279 := jA.mk (hbox); have GW279 := jA.mk ((by rw [hg]; exact (jB (bb_ HB)) : w.heap.size ≤ gb279)); have GE279 := GW279; replace HB := bs_ HB hb; clear hb hbox hg) | ((with_reducible refine jW (N := 3) rfl ?_); refine bx_ 3 #[.bool a1_0, .slice A1_1 l1_1.length c1_1, .slice A1_2 l1_2.length c1_2] 44 ?_; intro gb280 hg w8 hbox hb; have BK280 := jA.mk (hbox); have GW280 := jA.mk ((by rw [hg]; exact (jB (bb1_ HB GE279)) : w.heap.size ≤ gb280)); have GE280 := GW280; replace HB := jA.mk (jJ (bb1_ HB GE279) hb); have NB279_280 := jA.mk ((by rw [hg]; exact nlt_ BK279 : gb279 ≠ gb280)); have NB280_279 := jA.mk ((by rw [hg]; exact ngt_ BK279 : gb280 ≠ gb279)); replace BK279 := bk_ BK279 hb; clear hb hbox hg; have hnb9 := NB279_280.out; have hnc9 := NB280_279.out; obtain ⟨hcz10_0, hcz10_1, hcz10_2, hfz10_0, hfz10_1, hfz10_2⟩ := bf3_ BK279; obtain ⟨hcz11_0, hcz11_1, hcz11_2, hfz11_0, hfz11_1, hfz11_2⟩ := bf3_ BK280) | ((with_reducible refine jW (N := 15) rfl ?_); refine je (by first | rfl | kernel_rfl) ?_; dsimp only; (with_reducible refine jD (f := 47) rfl ?_); refine gl_ (some 15) Try.func47 #[.slice A0_1 l0_1.length c0_1, .slice A1_1 l1_1.length c1_1] ?_; (with_reducible refine (vI.calls k _ _ l0_1 _ _ l1_1 true _ ?side1 ?side2 ?side3 ?side4 A4.out).mono ?_); (case side1 => exact cb_ HR0_1 HB); (case side2 => exact HC0_1.out); (case side3 => exact cb_ HR1_1 HB); (case side4 => exact HC1_1.out); rintro e w' ⟨rfl, ⟨nd, rfl⟩⟩; refine ⟨_, rfl, ?_⟩) | ((with_reducible refine jW (N := 22) rfl ?_); refine je (by first | rfl | kernel_rfl) ?_; dsimp only; (with_reducible refine jD (f := 47) rfl ?_); refine gl_ (some 22) Try.func47 #[.slice A0_2 l0_2.length c0_2, .slice A1_2 l1_2.length c1_2] ?_; (with_reducible refine (vI.calls k _ _ l0_2 _ _ l1_2 t282 _ ?side1 ?side2 ?side3 ?side4 A6.out).mono ?_); (case side1 => repeat (first | exact (Kd.zT HR0_2.out (bb2_ HB GE279 GE280)) | (with_reducible refine Kd.zR ?_ _) | (with_reducible refine Kd.zV ?_ _) | (with_reducible refine Kd.zw ?_))); (case side2 => exact HC0_2.out); (case side3 => repeat (first | exact (Kd.zT HR1_2.out (bb2_ HB GE279 GE280)) | (with_reducible refine Kd.zR ?_ _) | (with_reducible refine Kd.zV ?_ _) | (with_reducible refine Kd.zw ?_))); (case side4 => exact HC1_2.out); rintro e w' ⟨rfl, ⟨nd, rfl⟩⟩; refine ⟨_, rfl, ?_⟩))
   go_ret
   exact ⟨ew_, (bb2_ HB GE279 GE280)⟩
  ·
   replace c5 := Bool.eq_false_iff.mpr c5
   subst c5
   replace H := in_ H
   obtain rfl := Option.some.inj H
   go_enter Try.func26, Try.ntmps26
   go_wp2_with (first | ((with_reducible refine jW (N := 2) rfl ?_); refine bx_ 2 #[.bool a0_0, .slice A0_1 l0_1.length c0_1, .slice A0_2 l0_2.length c0_2] 44 ?_; intro gb279 hg w12 hbox hb; have BK279 := jA.mk (hbox); have GW279 := jA.mk ((by rw [hg]; exact (jB (bb_ HB)) : w.heap.size ≤ gb279)); have GE279 := GW279; replace HB := bs_ HB hb; clear hb hbox hg) | ((with_reducible refine jW (N := 3) rfl ?_); refine bx_ 3 #[.bool a1_0, .slice A1_1 l1_1.length c1_1, .slice A1_2 l1_2.length c1_2] 44 ?_; intro gb280 hg w13 hbox hb; have BK280 := jA.mk (hbox); have GW280 := jA.mk ((by rw [hg]; exact (jB (bb1_ HB GE279)) : w.heap.size ≤ gb280)); have GE280 := GW280; replace HB := jA.mk (jJ (bb1_ HB GE279) hb); have NB279_280 := jA.mk ((by rw [hg]; exact nlt_ BK279 : gb279 ≠ gb280)); have NB280_279 := jA.mk ((by rw [hg]; exact ngt_ BK279 : gb280 ≠ gb279)); replace BK279 := bk_ BK279 hb; clear hb hbox hg; have hnb14 := NB279_280.out; have hnc14 := NB280_279.out; obtain ⟨hcz15_0, hcz15_1, hcz15_2, hfz15_0, hfz15_1, hfz15_2⟩ := bf3_ BK279; obtain ⟨hcz16_0, hcz16_1, hcz16_2, hfz16_0, hfz16_1, hfz16_2⟩ := bf3_ BK280) | ((with_reducible refine jW (N := 15) rfl ?_); refine je (by first | rfl | kernel_rfl) ?_; dsimp only; (with_reducible refine jD (f := 47) rfl ?_); refine gl_ (some 15) Try.func47 #[.slice A0_1 l0_1.length c0_1, .slice A1_1 l1_1.length c1_1] ?_; (with_reducible refine (vI.calls k _ _ l0_1 _ _ l1_1 false _ ?side1 ?side2 ?side3 ?side4 A4.out).mono ?_); (case side1 => exact cb_ HR0_1 HB); (case side2 => exact HC0_1.out); (case side3 => exact cb_ HR1_1 HB); (case side4 => exact HC1_1.out); rintro e w' ⟨rfl, ⟨nd, rfl⟩⟩; refine ⟨_, rfl, ?_⟩))
   go_ret
   exact ⟨ew_, (bb2_ HB GE279 GE280)⟩
 ·
  rw [if_neg c3] at H
  have c3b0 : (a0_0 == a1_0) = false := by simpa using c3
  (try (have c3b1 : decide (a0_0 = a1_0) = false := by simpa using c3))
  (try (have c3b2 : (a0_0 == a1_0) = false := by simpa using c3))
  (try (have c3b3 : ¬ (a0_0 = a1_0) := by simpa using c3))
  clear c3
  obtain rfl := Option.some.inj H
  go_enter Try.func26, Try.ntmps26
  go_wp2_with (first | ((with_reducible refine jW (N := 2) rfl ?_); refine bx_ 2 #[.bool a0_0, .slice A0_1 l0_1.length c0_1, .slice A0_2 l0_2.length c0_2] 44 ?_; intro gb279 hg w17 hbox hb; have BK279 := jA.mk (hbox); have GW279 := jA.mk ((by rw [hg]; exact (jB (bb_ HB)) : w.heap.size ≤ gb279)); have GE279 := GW279; replace HB := bs_ HB hb; clear hb hbox hg) | ((with_reducible refine jW (N := 3) rfl ?_); refine bx_ 3 #[.bool a1_0, .slice A1_1 l1_1.length c1_1, .slice A1_2 l1_2.length c1_2] 44 ?_; intro gb280 hg w18 hbox hb; have BK280 := jA.mk (hbox); have GW280 := jA.mk ((by rw [hg]; exact (jB (bb1_ HB GE279)) : w.heap.size ≤ gb280)); have GE280 := GW280; replace HB := jA.mk (jJ (bb1_ HB GE279) hb); have NB279_280 := jA.mk ((by rw [hg]; exact nlt_ BK279 : gb279 ≠ gb280)); have NB280_279 := jA.mk ((by rw [hg]; exact ngt_ BK279 : gb280 ≠ gb279)); replace BK279 := bk_ BK279 hb; clear hb hbox hg; have hnb19 := NB279_280.out; have hnc19 := NB280_279.out; obtain ⟨hcz20_0, hcz20_1, hcz20_2, hfz20_0, hfz20_1, hfz20_2⟩ := bf3_ BK279; obtain ⟨hcz21_0, hcz21_1, hcz21_2, hfz21_0, hfz21_1, hfz21_2⟩ := bf3_ BK280))
  go_ret
  exact ⟨ew_, (bb2_ HB GE279 GE280)⟩
def jAP.f (k : Nat) (l0 : List Int) (l1 : List Int) : Option (Int) := (vv.f k l0 l1).bind fun t283 => (some t283)
theorem jAP.mono : ∀ a0 a1 k, LeO (jAP.f k a0 a1) (jAP.f (k + 1) a0 a1) := by
 intro a0 a1 k
 unfold jAP.f
 repeat' first
   | (with_reducible exact vv.mono _ _ _)
   | (with_reducible exact LeO.refl _)
   | (with_reducible exact LeO.none _)
   | (with_reducible refine LeO.ite ?_ ?_)
   | (with_reducible refine LeO.bind ?_ (fun _ => ?_))
theorem jAP.calls (k : Nat) (A0 : Option Addr) (c0 : Nat) (l0 : List Int) (A1 : Option Addr) (c1 : Nat) (l1 : List Int) (r : Int) (w : World) (hr0 : Kd.C (Kd.int .u64) w A0 l0.length l0) (hc0 : l0.length ≤ c0) (hr1 : Kd.C (Kd.int .u64) w A1 l1.length l1) (hc1 : l1.length ≤ c1) (h : jAP.f k l0 l1 = some r) :
  Calls Try.prog 73 #[.slice A0 l0.length c0, .slice A1 l1.length c1] w fun e w' => e = .returned (.int .i64 r) ∧ Below w.heap.size w w' := by
 have HR0 := jA.mk hr0
 have HC0 := jA.mk hc0
 clear hr0 hc0
 have HR1 := jA.mk hr1
 have HC1 := jA.mk hc1
 clear hr1 hc1
 have HB := jA.mk (Below.refl w.heap.size w)
 have H : ((vv.f k l0 l1).bind fun t283 => (some t283)) = some r := h
 clear h
 replace H := ob_ H
 obtain ⟨t283, A30, H⟩ := H
 replace H : (some t283) = some r := H
 have A3 := jA.mk A30
 clear A30
 obtain rfl := Option.some.inj H
 go_enter Try.func73, Try.ntmps73
 go_wp2_with (first | ((with_reducible refine jD (f := 98) rfl ?_); refine gl_ (some 7) Try.func98 #[.slice A0 l0.length c0, .slice A1 l1.length c1] ?_; (with_reducible refine (vv.calls k _ _ l0 _ _ l1 t283 _ ?side1 ?side2 ?side3 ?side4 A3.out).mono ?_); (case side1 => exact cc_ HR0.out); (case side2 => exact HC0.out); (case side3 => exact cc_ HR1.out); (case side4 => exact HC1.out); rintro e w4 ⟨rfl, hb⟩; refine ⟨_, rfl, ?_⟩; replace HB := bs_ HB hb))
 go_ret
 exact ⟨ew_, (bb_ HB)⟩
def qK.f (k : Nat) (a0_0 : Bool) (l0_1 : List Int) (l0_2 : List Int) : Option (Bool) := (vK.f k l0_1 l0_2).bind fun bt285 => (if bt285.2 = 0 then (if (l0_2.length : Int) > 0 then ((jAP.f k bt285.1 (([1] : List Int))).bind fun t292 => (if t292 = 0 then (if a0_0 = true then ((qj.f a0_0 l0_1 l0_2).bind fun t293 => (some (!t293))) else (some true)) else (some false))) else (some false)) else (some false))
theorem qK.mono : ∀ a0 a1 a2 k, LeO (qK.f k a0 a1 a2) (qK.f (k + 1) a0 a1 a2) := by
 intro a0 a1 a2 k
 unfold qK.f
 repeat' first
   | (with_reducible exact jAP.mono _ _ _)
   | (with_reducible exact vK.mono _ _ _)
   | (with_reducible exact LeO.refl _)
   | (with_reducible exact LeO.none _)
   | (with_reducible refine LeO.ite ?_ ?_)
   | (with_reducible refine LeO.bind ?_ (fun _ => ?_))
theorem qK.calls (k : Nat) (a0_0 : Bool) (A0_1 : Option Addr) (c0_1 : Nat) (l0_1 : List Int) (A0_2 : Option Addr) (c0_2 : Nat) (l0_2 : List Int) (r : Bool) (w : World) (hr0_1 : Kd.C (Kd.int .u64) w A0_1 l0_1.length l0_1) (hc0_1 : l0_1.length ≤ c0_1) (hr0_2 : Kd.C (Kd.int .u64) w A0_2 l0_2.length l0_2) (hc0_2 : l0_2.length ≤ c0_2) (h : qK.f k a0_0 l0_1 l0_2 = some r) :
  Calls Try.prog 27 #[.agg #[.bool a0_0, .slice A0_1 l0_1.length c0_1, .slice A0_2 l0_2.length c0_2]] w fun e w' => e = .returned (.bool r) ∧ Below w.heap.size w w' := by
 have hu44 := Try.underlying44
 have HR0_1 := jA.mk hr0_1
 have HC0_1 := jA.mk hc0_1
 clear hr0_1 hc0_1
 have HR0_2 := jA.mk hr0_2
 have HC0_2 := jA.mk hc0_2
 clear hr0_2 hc0_2
 have HB := jA.mk (Below.refl w.heap.size w)
 have H : ((vK.f k l0_1 l0_2).bind fun bt285 => (if bt285.2 = 0 then (if (l0_2.length : Int) > 0 then ((jAP.f k bt285.1 (([1] : List Int))).bind fun t292 => (if t292 = 0 then (if a0_0 = true then ((qj.f a0_0 l0_1 l0_2).bind fun t293 => (some (!t293))) else (some true)) else (some false))) else (some false)) else (some false))) = some r := h
 clear h
 replace H := ob_ H
 obtain ⟨⟨t285, t286⟩, A20, H⟩ := H
 try dsimp only at H
 have A2 := jA.mk A20
 clear A20
 by_cases c3 : t286 = 0
 ·
  rw [if_pos c3] at H
  have c3b0 := beq_iff_eq.mpr c3
  have c3b1 := bne_eq_false_iff_eq.mpr c3
  clear c3
  by_cases c4 : (l0_2.length : Int) > 0
  ·
   rw [if_pos c4] at H
   have c4b0 := decide_eq_true c4
   have c4b1 : decide (0 < l0_2.length) = true := decide_eq_true (by omega)
   clear c4
   obtain ⟨y289, hy289⟩ : ∃ y_ : List Int, y_ = (([1] : List Int)) := ⟨_, rfl⟩
   replace H : ((jAP.f k t285 y289).bind fun t292 => (if t292 = 0 then (if a0_0 = true then ((qj.f a0_0 l0_1 l0_2).bind fun t293 => (some (!t293))) else (some true)) else (some false))) = some r := by first | (rw [hy289]; with_reducible exact H) | (have H2_ := (Option.bind_some _ _).symm.trans H; rw [hy289]; with_reducible exact H2_) | (with_reducible exact hs_ H) | with_reducible exact H | (rw [hy289]; exact H) | exact H
   have Ny289 := jA.mk hy289
   clear hy289
   obtain ⟨t292, A5, H⟩ := oc_ H
   try dsimp only at H
   by_cases c6 : t292 = 0
   ·
    rw [if_pos c6] at H
    have c6b0 := beq_iff_eq.mpr c6
    have c6b1 := bne_eq_false_iff_eq.mpr c6
    clear c6
    by_cases c7 : a0_0 = true
    ·
     subst c7
     replace H := ip_ H
     obtain ⟨t293, A8, H⟩ := oc_ H
     try dsimp only at H
     obtain rfl := Option.some.inj H
     go_enter Try.func27, Try.ntmps27
     go_wp2_with (first | ((with_reducible refine jW (N := 1) rfl ?_); (try (refine je (by rfl) ?_; dsimp only)); refine bx_ 1 #[.bool true, .slice A0_1 l0_1.length c0_1, .slice A0_2 l0_2.length c0_2] 44 ?_; intro gb284 hg w9 hbox hb; have BK284 := jA.mk (hbox); have GW284 := jA.mk ((by rw [hg]; exact (jB (bb_ HB)) : w.heap.size ≤ gb284)); have GE284 := GW284; replace HB := bs_ HB hb; clear hb hbox hg; obtain ⟨hcz10_0, hcz10_1, hcz10_2, hfz10_0, hfz10_1, hfz10_2⟩ := bf3_ BK284) | ((with_reducible refine jD (f := 71) rfl ?_); refine gl_ (some 10) Try.func71 #[.slice A0_1 l0_1.length c0_1, .slice A0_2 l0_2.length c0_2] ?_; (with_reducible refine (vK.calls k _ _ l0_1 _ _ l0_2 t285 t286 _ ?side1 ?side2 ?side3 ?side4 A2.out).mono ?_); (case side1 => exact cb_ HR0_1 HB); (case side2 => exact HC0_1.out); (case side3 => exact cb_ HR0_2 HB); (case side4 => exact HC0_2.out); rintro e w11 ⟨v287, rfl, ho0, hb⟩; refine ⟨_, rfl, ?_⟩; have HO288 := jA.mk (Kd.jL ho0 (jB (bb1_ HB GE284))); replace BK284 := bk_ BK284 hb; replace HB := jA.mk (jJ (bb1_ HB GE284) hb); obtain ⟨hcz12_0, hcz12_1, hcz12_2, hfz12_0, hfz12_1, hfz12_2⟩ := bf3_ BK284) | ((with_reducible refine jW (N := 23) rfl ?_); (try (refine je (by rfl) ?_; dsimp only)); refine Kd.qy (Kd.int .u64) _ 22 ?hg (N := 23) ?hd (xs := ([1] : List Int)) (inner := [.int .u64 1]) (ok := fun _ => True) (okp := fun _ => True) ?hr ?hp (fun _ hk => hk) trivial (Below.refl _ _) (Nat.le_refl _) (by simp) ?_; (case hd => rfl); (case hg => rfl); (case hr => exact gs_); (case hp => exact (Reps.one (show Kd.M (Kd.int .u64) _ _ _ 1 [.int .u64 1] from rfl) (Reps.none _ _))); intro v290 w13 ho14 hb hg_ hnew_; clear hg_ hnew_; (first | rw [← Ny289.out] at ho14 | (simp only [Int.reduceToNat] at ho14; rw [← Ny289.out] at ho14)); have HO291 := jA.mk (Kd.jL (Kd.jG ho14 (Kd.R_lt (rR_ HO288))) (jB (bb1_ HB GE284))); replace HO288 := re_ HO288 ho14 hb; replace BK284 := bk_ BK284 hb; replace HB := jA.mk (jJ (bb1_ HB GE284) hb); clear hb ho14; obtain ⟨Ao15, co15, rfl⟩ := Kd.jP HO288.out; obtain ⟨Ao16, co16, rfl⟩ := Kd.jP HO291.out) | ((with_reducible refine jW (N := 24) rfl ?_); (try (refine je (by rfl) ?_; dsimp only)); refine je (by first | rfl | kernel_rfl) ?_; dsimp only; (with_reducible refine jD (f := 73) rfl ?_); refine gl_ (some 24) Try.func73 #[.slice Ao15 t285.length co15, .slice Ao16 y289.length co16] ?_; (with_reducible refine (jAP.calls k _ _ t285 _ _ y289 t292 _ ?side1 ?side2 ?side3 ?side4 A5.out).mono ?_); (case side1 => exact cc_ (Kd.jC HO288.out).2.2); (case side2 => exact (Kd.jC HO288.out).2.1); (case side3 => exact cc_ (Kd.jC HO291.out).2.2); (case side4 => exact (Kd.jC HO291.out).2.1); rintro e w17 ⟨rfl, hb⟩; refine ⟨_, rfl, ?_⟩; replace HO288 := ro_ HO288 hb; replace HO291 := ro_ HO291 hb; replace BK284 := bk_ BK284 hb; replace HB := jA.mk (jJ (bb1_ HB GE284) hb); obtain ⟨hcz18_0, hcz18_1, hcz18_2, hfz18_0, hfz18_1, hfz18_2⟩ := bf3_ BK284) | (go_at_call 54; (with_reducible refine (qj.calls true _ _ l0_1 _ _ l0_2 t293 _ ?side1 ?side2 ?side3 ?side4 A8.out).mono ?_); (case side1 => exact cb_ HR0_1 HB); (case side2 => exact HC0_1.out); (case side3 => exact cb_ HR0_2 HB); (case side4 => exact HC0_2.out); rintro e w19 ⟨rfl, hb⟩; replace HO288 := ro_ HO288 hb; replace HO291 := ro_ HO291 hb; replace BK284 := bk_ BK284 hb; replace HB := jA.mk (jJ (bb1_ HB GE284) hb)))
     go_ret
     exact ⟨ew_, (bb1_ HB GE284)⟩
    ·
     replace c7 := Bool.eq_false_iff.mpr c7
     subst c7
     replace H := in_ H
     obtain rfl := Option.some.inj H
     go_enter Try.func27, Try.ntmps27
     go_wp2_with (first | ((with_reducible refine jW (N := 1) rfl ?_); (try (refine je (by rfl) ?_; dsimp only)); refine bx_ 1 #[.bool false, .slice A0_1 l0_1.length c0_1, .slice A0_2 l0_2.length c0_2] 44 ?_; intro gb284 hg w20 hbox hb; have BK284 := jA.mk (hbox); have GW284 := jA.mk ((by rw [hg]; exact (jB (bb_ HB)) : w.heap.size ≤ gb284)); have GE284 := GW284; replace HB := bs_ HB hb; clear hb hbox hg; obtain ⟨hcz21_0, hcz21_1, hcz21_2, hfz21_0, hfz21_1, hfz21_2⟩ := bf3_ BK284) | ((with_reducible refine jD (f := 71) rfl ?_); refine gl_ (some 10) Try.func71 #[.slice A0_1 l0_1.length c0_1, .slice A0_2 l0_2.length c0_2] ?_; (with_reducible refine (vK.calls k _ _ l0_1 _ _ l0_2 t285 t286 _ ?side1 ?side2 ?side3 ?side4 A2.out).mono ?_); (case side1 => exact cb_ HR0_1 HB); (case side2 => exact HC0_1.out); (case side3 => exact cb_ HR0_2 HB); (case side4 => exact HC0_2.out); rintro e w22 ⟨v287, rfl, ho0, hb⟩; refine ⟨_, rfl, ?_⟩; have HO288 := jA.mk (Kd.jL ho0 (jB (bb1_ HB GE284))); replace BK284 := bk_ BK284 hb; replace HB := jA.mk (jJ (bb1_ HB GE284) hb); obtain ⟨hcz23_0, hcz23_1, hcz23_2, hfz23_0, hfz23_1, hfz23_2⟩ := bf3_ BK284) | ((with_reducible refine jW (N := 23) rfl ?_); (try (refine je (by rfl) ?_; dsimp only)); refine Kd.qy (Kd.int .u64) _ 22 ?hg (N := 23) ?hd (xs := ([1] : List Int)) (inner := [.int .u64 1]) (ok := fun _ => True) (okp := fun _ => True) ?hr ?hp (fun _ hk => hk) trivial (Below.refl _ _) (Nat.le_refl _) (by simp) ?_; (case hd => rfl); (case hg => rfl); (case hr => exact gs_); (case hp => exact (Reps.one (show Kd.M (Kd.int .u64) _ _ _ 1 [.int .u64 1] from rfl) (Reps.none _ _))); intro v290 w24 ho25 hb hg_ hnew_; clear hg_ hnew_; (first | rw [← Ny289.out] at ho25 | (simp only [Int.reduceToNat] at ho25; rw [← Ny289.out] at ho25)); have HO291 := jA.mk (Kd.jL (Kd.jG ho25 (Kd.R_lt (rR_ HO288))) (jB (bb1_ HB GE284))); replace HO288 := re_ HO288 ho25 hb; replace BK284 := bk_ BK284 hb; replace HB := jA.mk (jJ (bb1_ HB GE284) hb); clear hb ho25; obtain ⟨Ao26, co26, rfl⟩ := Kd.jP HO288.out; obtain ⟨Ao27, co27, rfl⟩ := Kd.jP HO291.out) | ((with_reducible refine jW (N := 24) rfl ?_); (try (refine je (by rfl) ?_; dsimp only)); refine je (by first | rfl | kernel_rfl) ?_; dsimp only; (with_reducible refine jD (f := 73) rfl ?_); refine gl_ (some 24) Try.func73 #[.slice Ao26 t285.length co26, .slice Ao27 y289.length co27] ?_; (with_reducible refine (jAP.calls k _ _ t285 _ _ y289 t292 _ ?side1 ?side2 ?side3 ?side4 A5.out).mono ?_); (case side1 => exact cc_ (Kd.jC HO288.out).2.2); (case side2 => exact (Kd.jC HO288.out).2.1); (case side3 => exact cc_ (Kd.jC HO291.out).2.2); (case side4 => exact (Kd.jC HO291.out).2.1); rintro e w28 ⟨rfl, hb⟩; refine ⟨_, rfl, ?_⟩; replace HO288 := ro_ HO288 hb; replace HO291 := ro_ HO291 hb; replace BK284 := bk_ BK284 hb; replace HB := jA.mk (jJ (bb1_ HB GE284) hb); obtain ⟨hcz29_0, hcz29_1, hcz29_2, hfz29_0, hfz29_1, hfz29_2⟩ := bf3_ BK284))
     go_ret
     exact ⟨ew_, (bb1_ HB GE284)⟩
   ·
    rw [if_neg c6] at H
    have c6b0 := beq_eq_false_iff_ne.mpr c6
    have c6b1 := bne_iff_ne.mpr c6
    obtain rfl := Option.some.inj H
    go_enter Try.func27, Try.ntmps27
    go_wp2_with (first | ((with_reducible refine jW (N := 1) rfl ?_); (try (refine je (by rfl) ?_; dsimp only)); refine bx_ 1 #[.bool a0_0, .slice A0_1 l0_1.length c0_1, .slice A0_2 l0_2.length c0_2] 44 ?_; intro gb284 hg w30 hbox hb; have BK284 := jA.mk (hbox); have GW284 := jA.mk ((by rw [hg]; exact (jB (bb_ HB)) : w.heap.size ≤ gb284)); have GE284 := GW284; replace HB := bs_ HB hb; clear hb hbox hg; obtain ⟨hcz31_0, hcz31_1, hcz31_2, hfz31_0, hfz31_1, hfz31_2⟩ := bf3_ BK284) | ((with_reducible refine jD (f := 71) rfl ?_); refine gl_ (some 10) Try.func71 #[.slice A0_1 l0_1.length c0_1, .slice A0_2 l0_2.length c0_2] ?_; (with_reducible refine (vK.calls k _ _ l0_1 _ _ l0_2 t285 t286 _ ?side1 ?side2 ?side3 ?side4 A2.out).mono ?_); (case side1 => exact cb_ HR0_1 HB); (case side2 => exact HC0_1.out); (case side3 => exact cb_ HR0_2 HB); (case side4 => exact HC0_2.out); rintro e w32 ⟨v287, rfl, ho0, hb⟩; refine ⟨_, rfl, ?_⟩; have HO288 := jA.mk (Kd.jL ho0 (jB (bb1_ HB GE284))); replace BK284 := bk_ BK284 hb; replace HB := jA.mk (jJ (bb1_ HB GE284) hb); obtain ⟨hcz33_0, hcz33_1, hcz33_2, hfz33_0, hfz33_1, hfz33_2⟩ := bf3_ BK284) | ((with_reducible refine jW (N := 23) rfl ?_); (try (refine je (by rfl) ?_; dsimp only)); refine Kd.qy (Kd.int .u64) _ 22 ?hg (N := 23) ?hd (xs := ([1] : List Int)) (inner := [.int .u64 1]) (ok := fun _ => True) (okp := fun _ => True) ?hr ?hp (fun _ hk => hk) trivial (Below.refl _ _) (Nat.le_refl _) (by simp) ?_; (case hd => rfl); (case hg => rfl); (case hr => exact gs_); (case hp => exact (Reps.one (show Kd.M (Kd.int .u64) _ _ _ 1 [.int .u64 1] from rfl) (Reps.none _ _))); intro v290 w34 ho35 hb hg_ hnew_; clear hg_ hnew_; (first | rw [← Ny289.out] at ho35 | (simp only [Int.reduceToNat] at ho35; rw [← Ny289.out] at ho35)); have HO291 := jA.mk (Kd.jL (Kd.jG ho35 (Kd.R_lt (rR_ HO288))) (jB (bb1_ HB GE284))); replace HO288 := re_ HO288 ho35 hb; replace BK284 := bk_ BK284 hb; replace HB := jA.mk (jJ (bb1_ HB GE284) hb); clear hb ho35; obtain ⟨Ao36, co36, rfl⟩ := Kd.jP HO288.out; obtain ⟨Ao37, co37, rfl⟩ := Kd.jP HO291.out) | ((with_reducible refine jW (N := 24) rfl ?_); (try (refine je (by rfl) ?_; dsimp only)); refine je (by first | rfl | kernel_rfl) ?_; dsimp only; (with_reducible refine jD (f := 73) rfl ?_); refine gl_ (some 24) Try.func73 #[.slice Ao36 t285.length co36, .slice Ao37 y289.length co37] ?_; (with_reducible refine (jAP.calls k _ _ t285 _ _ y289 t292 _ ?side1 ?side2 ?side3 ?side4 A5.out).mono ?_); (case side1 => exact cc_ (Kd.jC HO288.out).2.2); (case side2 => exact (Kd.jC HO288.out).2.1); (case side3 => exact cc_ (Kd.jC HO291.out).2.2); (case side4 => exact (Kd.jC HO291.out).2.1); rintro e w38 ⟨rfl, hb⟩; refine ⟨_, rfl, ?_⟩; replace HO288 := ro_ HO288 hb; replace HO291 := ro_ HO291 hb; replace BK284 := bk_ BK284 hb; replace HB := jA.mk (jJ (bb1_ HB GE284) hb)))
    go_ret
    exact ⟨ew_, (bb1_ HB GE284)⟩
  ·
   rw [if_neg c4] at H
   have c4b0 := decide_eq_false c4
   have c4b1 : decide (0 < l0_2.length) = false := decide_eq_false (by omega)
   clear c4
   obtain rfl := Option.some.inj H
   go_enter Try.func27, Try.ntmps27
   go_wp2_with (first | ((with_reducible refine jW (N := 1) rfl ?_); (try (refine je (by rfl) ?_; dsimp only)); refine bx_ 1 #[.bool a0_0, .slice A0_1 l0_1.length c0_1, .slice A0_2 l0_2.length c0_2] 44 ?_; intro gb284 hg w39 hbox hb; have BK284 := jA.mk (hbox); have GW284 := jA.mk ((by rw [hg]; exact (jB (bb_ HB)) : w.heap.size ≤ gb284)); have GE284 := GW284; replace HB := bs_ HB hb; clear hb hbox hg; obtain ⟨hcz40_0, hcz40_1, hcz40_2, hfz40_0, hfz40_1, hfz40_2⟩ := bf3_ BK284) | ((with_reducible refine jD (f := 71) rfl ?_); refine gl_ (some 10) Try.func71 #[.slice A0_1 l0_1.length c0_1, .slice A0_2 l0_2.length c0_2] ?_; (with_reducible refine (vK.calls k _ _ l0_1 _ _ l0_2 t285 t286 _ ?side1 ?side2 ?side3 ?side4 A2.out).mono ?_); (case side1 => exact cb_ HR0_1 HB); (case side2 => exact HC0_1.out); (case side3 => exact cb_ HR0_2 HB); (case side4 => exact HC0_2.out); rintro e w41 ⟨v287, rfl, ho0, hb⟩; refine ⟨_, rfl, ?_⟩; have HO288 := jA.mk (Kd.jL ho0 (jB (bb1_ HB GE284))); replace BK284 := bk_ BK284 hb; replace HB := jA.mk (jJ (bb1_ HB GE284) hb); obtain ⟨hcz42_0, hcz42_1, hcz42_2, hfz42_0, hfz42_1, hfz42_2⟩ := bf3_ BK284))
   go_ret
   exact ⟨ew_, (bb1_ HB GE284)⟩
 ·
  rw [if_neg c3] at H
  have c3b0 := beq_eq_false_iff_ne.mpr c3
  have c3b1 := bne_iff_ne.mpr c3
  obtain rfl := Option.some.inj H
  go_enter Try.func27, Try.ntmps27
  go_wp2_with (first | ((with_reducible refine jW (N := 1) rfl ?_); (try (refine je (by rfl) ?_; dsimp only)); refine bx_ 1 #[.bool a0_0, .slice A0_1 l0_1.length c0_1, .slice A0_2 l0_2.length c0_2] 44 ?_; intro gb284 hg w43 hbox hb; have BK284 := jA.mk (hbox); have GW284 := jA.mk ((by rw [hg]; exact (jB (bb_ HB)) : w.heap.size ≤ gb284)); have GE284 := GW284; replace HB := bs_ HB hb; clear hb hbox hg; obtain ⟨hcz44_0, hcz44_1, hcz44_2, hfz44_0, hfz44_1, hfz44_2⟩ := bf3_ BK284) | ((with_reducible refine jD (f := 71) rfl ?_); refine gl_ (some 10) Try.func71 #[.slice A0_1 l0_1.length c0_1, .slice A0_2 l0_2.length c0_2] ?_; (with_reducible refine (vK.calls k _ _ l0_1 _ _ l0_2 t285 t286 _ ?side1 ?side2 ?side3 ?side4 A2.out).mono ?_); (case side1 => exact cb_ HR0_1 HB); (case side2 => exact HC0_1.out); (case side3 => exact cb_ HR0_2 HB); (case side4 => exact HC0_2.out); rintro e w45 ⟨v287, rfl, ho0, hb⟩; refine ⟨_, rfl, ?_⟩; have HO288 := jA.mk (Kd.jL ho0 (jB (bb1_ HB GE284))); replace BK284 := bk_ BK284 hb; replace HB := jA.mk (jJ (bb1_ HB GE284) hb)))
  go_ret
  exact ⟨ew_, (bb1_ HB GE284)⟩
def vS.f (k : Nat) (a0_0 : Bool) (l0_1 : List Int) (l0_2 : List Int) (a1_0 : Bool) (l1_1 : List Int) (l1_2 : List Int) : Option (List Int × List Int) := (vE.f k l0_1 l1_2).bind fun t296 => ((vE.f k l1_1 l0_2).bind fun t299 => (some (t296, t299)))
theorem vS.mono : ∀ a0 a1 a2 a3 a4 a5 k, LeO (vS.f k a0 a1 a2 a3 a4 a5) (vS.f (k + 1) a0 a1 a2 a3 a4 a5) := by
 intro a0 a1 a2 a3 a4 a5 k
 unfold vS.f
 repeat' first
   | (with_reducible exact vE.mono _ _ _)
   | (with_reducible exact LeO.refl _)
   | (with_reducible exact LeO.none _)
   | (with_reducible refine LeO.ite ?_ ?_)
   | (with_reducible refine LeO.bind ?_ (fun _ => ?_))
def vS.T1 : Bool × List (List Nat × List Nat) := (true, [([], []), ([0], [0]), ([], []), ([2], [2]), ([1, 3], [1, 3]), ([], []), ([5], [5]), ([], []), ([7], [7]), ([6, 8, 4], [6, 8]), ([4, 9, 0, 1, 2, 3, 4], [4]), ([9, 10, 0, 1, 2, 3, 4, 5, 6, 7, 8, 9, 10], [9])])
def vS.B1 : List Nat := [0, 1, 0, 4, 15, 0, 32, 0, 128, 511, 1023, 2047]
theorem vS.tab1 : rtab .any (opsOf Try.f86 1) = vS.T1 := by kernel_rfl
theorem vS.jKS : jAa vS.T1.2 vS.B1 = true := by kernel_rfl
theorem vS.calls (k : Nat) (a0_0 : Bool) (A0_1 : Option Addr) (c0_1 : Nat) (l0_1 : List Int) (A0_2 : Option Addr) (c0_2 : Nat) (l0_2 : List Int) (a1_0 : Bool) (A1_1 : Option Addr) (c1_1 : Nat) (l1_1 : List Int) (A1_2 : Option Addr) (c1_2 : Nat) (l1_2 : List Int) (r1 : List Int) (r2 : List Int) (w : World) (hr0_1 : Kd.C (Kd.int .u64) w A0_1 l0_1.length l0_1) (hc0_1 : l0_1.length ≤ c0_1) (hr0_2 : Kd.C (Kd.int .u64) w A0_2 l0_2.length l0_2) (hc0_2 : l0_2.length ≤ c0_2) (hr1_1 : Kd.C (Kd.int .u64) w A1_1 l1_1.length l1_1) (hc1_1 : l1_1.length ≤ c1_1) (hr1_2 : Kd.C (Kd.int .u64) w A1_2 l1_2.length l1_2) (hc1_2 : l1_2.length ≤ c1_2) (h : vS.f k a0_0 l0_1 l0_2 a1_0 l1_1 l1_2 = some (r1, r2)) :
  Calls Try.prog 86 #[.agg #[.bool a0_0, .slice A0_1 l0_1.length c0_1, .slice A0_2 l0_2.length c0_2], .agg #[.bool a1_0, .slice A1_1 l1_1.length c1_1, .slice A1_2 l1_2.length c1_2]] w fun e w' => ∃ v0_ v1_ : Value, e = .returned (.tuple #[v0_, v1_]) ∧ Kd.R (Kd.int .u64) 22 w' w.heap.size (fun k_ => some k_ ≠ (v1_ : Value).ownBlock) v0_ r1 ∧ Kd.R (Kd.int .u64) 22 w' w.heap.size (fun k_ => some k_ ≠ (v0_ : Value).ownBlock) v1_ r2 ∧ Below w.heap.size w w' := by
 have hu44 := Try.underlying44
 have HR0_1 := jA.mk hr0_1
 have HC0_1 := jA.mk hc0_1
 clear hr0_1 hc0_1
 have HR0_2 := jA.mk hr0_2
 have HC0_2 := jA.mk hc0_2
 clear hr0_2 hc0_2
 have HR1_1 := jA.mk hr1_1
 have HC1_1 := jA.mk hc1_1
 clear hr1_1 hc1_1
 have HR1_2 := jA.mk hr1_2
 have HC1_2 := jA.mk hc1_2
 clear hr1_2 hc1_2
 have HB := jA.mk (Below.refl w.heap.size w)
 have H : ((vE.f k l0_1 l1_2).bind fun t296 => ((vE.f k l1_1 l0_2).bind fun t299 => (some (t296, t299)))) = some (r1, r2) := h
 clear h
 obtain ⟨t296, A3, H⟩ := oc_ H
 try dsimp only at H
 obtain ⟨t299, A4, H⟩ := oc_ H
 try dsimp only at H
 simp only [Option.some.injEq, Prod.mk.injEq] at H
 obtain ⟨rfl, rfl⟩ := H
 go_enter Try.func86, Try.ntmps86
 try go_wp2_with (first | ((with_reducible refine jW (N := 2) rfl ?_); refine bx_ 2 #[.bool a0_0, .slice A0_1 l0_1.length c0_1, .slice A0_2 l0_2.length c0_2] 44 ?_; intro gb294 hg w5 hbox hb; have BK294 := jA.mk (hbox); have GW294 := jA.mk ((by rw [hg]; exact (jB (bb_ HB)) : w.heap.size ≤ gb294)); have GE294 := GW294; replace HB := bs_ HB hb; clear hb hbox hg) | ((with_reducible refine jW (N := 3) rfl ?_); refine bx_ 3 #[.bool a1_0, .slice A1_1 l1_1.length c1_1, .slice A1_2 l1_2.length c1_2] 44 ?_; intro gb295 hg w6 hbox hb; have BK295 := jA.mk (hbox); have GW295 := jA.mk ((by rw [hg]; exact (jB (bb1_ HB GE294)) : w.heap.size ≤ gb295)); have GE295 := GW295; replace HB := jA.mk (jJ (bb1_ HB GE294) hb); have NB294_295 := jA.mk ((by rw [hg]; exact nlt_ BK294 : gb294 ≠ gb295)); have NB295_294 := jA.mk ((by rw [hg]; exact ngt_ BK294 : gb295 ≠ gb294)); replace BK294 := bk_ BK294 hb; clear hb hbox hg))
 have n0_ := jA.mk (vN BK294.out)
 have n1_ := jA.mk (vN BK295.out)
 have n2_ := jA.mk (zk HB.out)
 clear BK294
 clear BK295
 clear HB
 have BK294 := n0_
 have BK295 := n1_
 have HB := n2_
 clear n0_ n1_ n2_
 refine jAk (n := 12) (S := fun w' => w'.cell? ⟨gb294, 0, none⟩ = some (.bool a0_0) ∧ w'.cell? ⟨gb294, 1, none⟩ = some (.slice A0_1 l0_1.length c0_1) ∧ w'.cell? ⟨gb294, 2, none⟩ = some (.slice A0_2 l0_2.length c0_2) ∧ w'.cell? ⟨gb295, 0, none⟩ = some (.bool a1_0) ∧ w'.cell? ⟨gb295, 1, none⟩ = some (.slice A1_1 l1_1.length c1_1) ∧ w'.cell? ⟨gb295, 2, none⟩ = some (.slice A1_2 l1_2.length c1_2)) (ds := []) #[false, false, false, false, false, false, false, false, false, false, false, false] kr_ rfl rfl ⟨(jI BK294.out 0).trans rfl, (jI BK294.out 1).trans rfl, (jI BK294.out 2).trans rfl, (jI BK295.out 0).trans rfl, (jI BK295.out 1).trans rfl, (jI BK295.out 2).trans rfl⟩ (fun hHeld => ?_); refine jAK vS.tab1 vS.jKS (fun HT_ HW_ => ?_)
 generalize w6.drew = w7 at BK294 BK295 HB hHeld ⊢
 refine pu_ 0 (some 6) (ba_ 12 1) (vL HT_.out kr_) ?_
 refine pu_ 2 (some 8) (ba_ 12 5) (vL HT_.out kr_) ?_
 refine pu_ 5 (some 11) (ba_ 12 37) (vL HT_.out kr_) ?_
 refine pu_ 7 (some 13) (ba_ 12 165) (vL HT_.out kr_) ?_
 refine tk6_ 1 (some 7) (ba_ 12 167) (qF HT_.out HW_.out kr_) hHeld ?_
 refine tk6_ 3 (some 9) (ba_ 12 175) (qF HT_.out HW_.out kr_) hHeld ?_
 refine tk6_ 6 (some 12) (ba_ 12 239) (qF HT_.out HW_.out kr_) hHeld ?_
 refine tk6_ 8 (some 14) (ba_ 12 495) (qF HT_.out HW_.out kr_) hHeld ?_
 refine one_ (i := 4) (N := some 10) (ba_ 12 511) rfl rfl (ql HT_.out kr_) (by decide) (fun K hK => ?_)
 refine jAs Try.func88 kr_ rfl #[.slice A0_1 l0_1.length c0_1, .slice A1_2 l1_2.length c1_2] (by rfl) rfl rfl (by (try simp only [List.map_toArray, List.map_cons, List.map_nil]); first | done | rfl | (simp only [List.length_drop, List.length_take]; rfl)) ?_
 with_reducible refine (vE.calls k _ _ l0_1 _ _ l1_2 t296 _ ?side1 ?side2 ?side3 ?side4 A3.out).mono ?_
 (case side1 => exact cb_ HR0_1 HB)
 (case side2 => exact HC0_1.out)
 (case side3 => exact cb_ HR1_2 HB)
 (case side4 => exact HC1_2.out)
 rintro e w8 ⟨v297, rfl, ho0, hb⟩
 refine ⟨_, rfl, ?_⟩
 have n0_ := jA.mk (Kd.jL ho0 (jB (bb2_ HB GE294 GE295)))
 have n1_ := bk_ BK294 hb
 have n2_ := bk_ BK295 hb
 have n3_ := jA.mk (jJ (bb2_ HB GE294 GE295) hb)
 clear BK294
 clear BK295
 clear HB
 have HO298 := n0_
 have BK294 := n1_
 have BK295 := n2_
 have HB := n3_
 clear n0_ n1_ n2_ n3_
 (try clear hb)
 (try clear hb2)
 (try clear hk)
 (try clear hi)
 (try clear ho0)
 refine hK.out _ _ ⟨(jI BK294.out 0).trans rfl, (jI BK294.out 1).trans rfl, (jI BK294.out 2).trans rfl, (jI BK295.out 0).trans rfl, (jI BK295.out 1).trans rfl, (jI BK295.out 2).trans rfl⟩ (fun hHeld => ?_)
 clear hK K
 refine ns_ 10 ?_
 refine one_ (i := 9) (N := some 15) (ba_ 12 1023) rfl rfl (ql HT_.out kr_) (by decide) (fun K hK => ?_)
 refine jAs Try.func88 kr_ rfl #[.slice A1_1 l1_1.length c1_1, .slice A0_2 l0_2.length c0_2] (by rfl) rfl rfl (by (try simp only [List.map_toArray, List.map_cons, List.map_nil]); first | done | rfl | (simp only [List.length_drop, List.length_take]; rfl)) ?_
 with_reducible refine (vE.calls k _ _ l1_1 _ _ l0_2 t299 _ ?side1 ?side2 ?side3 ?side4 A4.out).mono ?_
 (case side1 => exact cb_ HR1_1 HB)
 (case side2 => exact HC1_1.out)
 (case side3 => exact cb_ HR0_2 HB)
 (case side4 => exact HC0_2.out)
 rintro e w9 ⟨v300, rfl, ho0, hb⟩
 refine ⟨_, rfl, ?_⟩
 have n0_ := re_ HO298 ho0 hb
 have n1_ := jA.mk (Kd.jL (Kd.jG ho0 (Kd.R_lt (rR_ HO298))) (jB (bb2_ HB GE294 GE295)))
 have n2_ := bk_ BK294 hb
 have n3_ := bk_ BK295 hb
 have n4_ := jA.mk (jJ (bb2_ HB GE294 GE295) hb)
 clear HO298
 clear BK294
 clear BK295
 clear HB
 have HO298 := n0_
 have HO301 := n1_
 have BK294 := n2_
 have BK295 := n3_
 have HB := n4_
 clear n0_ n1_ n2_ n3_ n4_
 (try clear hb)
 (try clear hb2)
 (try clear hk)
 (try clear hi)
 (try clear ho0)
 refine hK.out _ _ ⟨(jI BK294.out 0).trans rfl, (jI BK294.out 1).trans rfl, (jI BK294.out 2).trans rfl, (jI BK295.out 0).trans rfl, (jI BK295.out 1).trans rfl, (jI BK295.out 2).trans rfl⟩ (fun hHeld => ?_)
 clear hK K
 refine ns_ 15 ?_
 refine pu_ 10 (some 4) (ba_ 12 2047) (vL HT_.out kr_) ?_
 refine pu_ 11 (some 5) (ba_ 12 4095) (vL HT_.out kr_) ?_
 refine jBH (jAt HT_.out kr_) ?_
 try go_wp2
 go_ret2
 exact ⟨_, _, ew_, by refine pR_ ?_; exact Kd.jO HO298.out (fun _ hk => hk.2), by refine pR_ ?_; exact Kd.jO HO301.out (fun _ hk => hk.2), (bb2_ HB GE294 GE295)⟩
end Go.Proofs.Ytijgeonhbmgikaa.PORatioMakes
