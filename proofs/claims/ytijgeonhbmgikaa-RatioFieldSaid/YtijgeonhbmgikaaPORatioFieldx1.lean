-- printed (pr.py)
import Derived.Test.YtijgeonhbmgikaaPORatioFieldx0
namespace Go.Proofs.Ytijgeonhbmgikaa.PORatioField
open Go.RowKit Go.Proofs.YtijgeonhbmgikaaN Go.Proofs.YtijgeonhbmgikaaW.PrintWords Go.Proofs.YtijgeonhbmgikaaW.PrintLast Go.Proofs.YtijgeonhbmgikaaW.PrintMore
attribute [local go_sem] qH qF qg qd zq zo qG qE
set_option maxHeartbeats 8000000
set_option maxRecDepth 100000
set_option linter.unusedVariables false
set_option linter.unusedSimpArgs false
def ji.l0 : Nat → List Int → List Int → Int → Option (Bool)
 | 0, _, _, _ => none
 | k + 1, x0, x1, x5 => if x5 < (x0.length : Int) then (if 0 ≤ x5 then (if x5 < (x1.length : Int) then (if (rd x0 x5) = (rd x1 x5) then (ji.l0 k x0 x1 (wrap64 (x5 + 1))) else (some false)) else (none)) else (none)) else (some true)
def ji.f (k : Nat) (l0 : List Int) (l1 : List Int) : Option (Bool) := if (l0.length : Int) = (l1.length : Int) then (ji.l0 k l0 l1 0) else (some false)
theorem ji.vS : ∀ k, (∀ y0 y1 y2, LeO (ji.l0 k y0 y1 y2) (ji.l0 (k + 1) y0 y1 y2))
 | 0 => fun _ _ _ r h => by simp [ji.l0] at h
 | k + 1 => by
  have ih0 := ji.vS k
  ·
   intro y0 y1 y2
   unfold ji.l0
   repeat' first
   | (with_reducible exact ih0 _ _ _)
   | (with_reducible exact LeO.refl _)
   | (with_reducible exact LeO.none _)
   | (with_reducible refine LeO.ite ?_ ?_)
   | (with_reducible refine LeO.bind ?_ (fun _ => ?_))
theorem ji.mono : ∀ a0 a1 k, LeO (ji.f k a0 a1) (ji.f (k + 1) a0 a1) := by
 intro a0 a1 k
 have ih0 := ji.vS k
 unfold ji.f
 repeat' first
   | (with_reducible exact ih0 _ _ _)
   | (with_reducible exact LeO.refl _)
   | (with_reducible exact LeO.none _)
   | (with_reducible refine LeO.ite ?_ ?_)
   | (with_reducible refine LeO.bind ?_ (fun _ => ?_))
theorem ji.calls (k : Nat) (A0 : Option Addr) (c0 : Nat) (l0 : List Int) (A1 : Option Addr) (c1 : Nat) (l1 : List Int) (r : Bool) (w : World) (hr0 : Kd.C (Kd.int .u64) w A0 l0.length l0) (hc0 : l0.length ≤ c0) (hr1 : Kd.C (Kd.int .u64) w A1 l1.length l1) (hc1 : l1.length ≤ c1) (h : ji.f k l0 l1 = some r) :
  Calls Try.prog 85 #[.slice A0 l0.length c0, .slice A1 l1.length c1] w fun e w' => e = .returned (.bool r) ∧ za w w' := by
 have HR0 := jA.mk hr0
 have HC0 := jA.mk hc0
 clear hr0 hc0
 have HR1 := jA.mk hr1
 have HC1 := jA.mk hc1
 clear hr1 hc1
 have H : (if (l0.length : Int) = (l1.length : Int) then (ji.l0 k l0 l1 0) else (some false)) = some r := h
 clear h
 by_cases c3 : (l0.length : Int) = (l1.length : Int)
 ·
  rw [if_pos c3] at H
  have c3b0 := beq_iff_eq.mpr c3
  have c3b1 := bne_eq_false_iff_eq.mpr c3
  have c3b2 : (l0.length == l1.length) = true := by first | simpa using c3 | (simp at c3 ⊢; omega)
  clear c3
  have H' := jA.mk H
  clear H
  go_enter Try.func85, Try.ntmps85
  go_wp2
  repeat (go_quiet (fail); try go_wp2)
  go_loopg [5] k (fun kq v5 w' => ∃ (x5_1 : Int), v5 = .int .i64 x5_1 ∧ jA (ji.l0 kq l0 l1 x5_1 = some r) ∧ jA (kq ≤ k) ∧ za w w')
  case atStart => exact ⟨(0), sd_, H', ⟨Nat.le_refl _⟩, by repeat (first | exact za.refl _ | apply za.step)⟩
  case round =>
   clear H'
   try clear c1
   try clear p2
   try clear c3
   try clear c3b0
   try clear c3b1
   try clear c3b2
   obtain ⟨x5_1, rfl, HA, HK1, ⟨m1, rfl⟩⟩ := hrel
   cases gk with
   | zero => exact absurd HA.out (by simp [ji.l0])
   | succ k1 =>
    have H := HA.out
    clear HA
    simp only [ji.l0] at H
    by_cases c4 : x5_1 < (l0.length : Int)
    ·
     rw [if_pos c4] at H
     have c4b0 := decide_eq_true c4
     clear c4
     by_cases c5 : 0 ≤ x5_1
     ·
      rw [if_pos c5] at H
      have c5b0 := decide_eq_true c5
      clear c5
      by_cases c6 : x5_1 < (l1.length : Int)
      ·
       rw [if_pos c6] at H
       have c6b0 := decide_eq_true c6
       clear c6
       by_cases c7 : (rd l0 x5_1) = (rd l1 x5_1)
       ·
        rw [if_pos c7] at H
        have c7b0 := beq_iff_eq.mpr c7
        have c7b1 := bne_eq_false_iff_eq.mpr c7
        clear c7
        have H' := jA.mk H
        clear H
        have p101 : 0 ≤ (x5_1 : Int) := of_decide_eq_true am_
        have q101 : x5_1 < (l0.length : Int) := of_decide_eq_true am_
        obtain ⟨ad101, e101, hx101_0⟩ := Kd.vw HR0.out x5_1 p101 q101
        cases e101
        replace p101 := eq_true p101
        replace q101 := eq_true q101
        have p102 : 0 ≤ (x5_1 : Int) := of_decide_eq_true am_
        have q102 : x5_1 < (l1.length : Int) := of_decide_eq_true am_
        obtain ⟨ad102, e102, hx102_0⟩ := Kd.vw HR1.out x5_1 p102 q102
        cases e102
        replace p102 := eq_true p102
        replace q102 := eq_true q102
        go_wp2
        repeat (go_quiet (fail); try go_wp2)
        go_roundg k1
        case measure => have := HK1.out; omega
        case rel => exact ⟨(wrap64 (x5_1 + 1)), sd_, H', ⟨by have := HK1.out; omega⟩, by repeat (first | exact za.refl _ | apply za.step)⟩
       ·
        rw [if_neg c7] at H
        have c7b0 := beq_eq_false_iff_ne.mpr c7
        have c7b1 := bne_iff_ne.mpr c7
        obtain rfl := Option.some.inj H
        have p101 : 0 ≤ (x5_1 : Int) := of_decide_eq_true am_
        have q101 : x5_1 < (l0.length : Int) := of_decide_eq_true am_
        obtain ⟨ad101, e101, hx101_0⟩ := Kd.vw HR0.out x5_1 p101 q101
        cases e101
        replace p101 := eq_true p101
        replace q101 := eq_true q101
        have p102 : 0 ≤ (x5_1 : Int) := of_decide_eq_true am_
        have q102 : x5_1 < (l1.length : Int) := of_decide_eq_true am_
        obtain ⟨ad102, e102, hx102_0⟩ := Kd.vw HR1.out x5_1 p102 q102
        cases e102
        replace p102 := eq_true p102
        replace q102 := eq_true q102
        go_wp2
        repeat (go_quiet (fail); try go_wp2)
        go_ret
        exact ⟨by first | rfl | (simp; done) | (simp [*]; done), by repeat (first | exact za.refl _ | apply za.step)⟩
      ·
       rw [if_neg c6] at H
       exact absurd H (by simp)
     ·
      rw [if_neg c5] at H
      exact absurd H (by simp)
    ·
     rw [if_neg c4] at H
     have c4b0 := decide_eq_false c4
     clear c4
     obtain rfl := Option.some.inj H
     go_wp2
     repeat (go_quiet (fail); try go_wp2)
     go_ret
     exact ⟨by first | rfl | (simp; done) | (simp [*]; done), by repeat (first | exact za.refl _ | apply za.step)⟩
 ·
  rw [if_neg c3] at H
  have c3b0 := beq_eq_false_iff_ne.mpr c3
  have c3b1 := bne_iff_ne.mpr c3
  have c3b2 : (l0.length == l1.length) = false := by first | simpa using c3 | (simp at c3 ⊢; omega)
  obtain rfl := Option.some.inj H
  go_enter Try.func85, Try.ntmps85
  go_wp2
  repeat (go_quiet (fail); try go_wp2)
  go_ret
  exact ⟨by first | rfl | (simp; done) | (simp [*]; done), by repeat (first | exact za.refl _ | apply za.step)⟩
def vT.f (k : Nat) (l0 : List Int) (l1 : List Int) : Option (Bool) := (ji.f k l0 l1).bind fun t103 => (some t103)
theorem vT.mono : ∀ a0 a1 k, LeO (vT.f k a0 a1) (vT.f (k + 1) a0 a1) := by
 intro a0 a1 k
 unfold vT.f
 repeat' first
   | (with_reducible exact ji.mono _ _ _)
   | (with_reducible exact LeO.refl _)
   | (with_reducible exact LeO.none _)
   | (with_reducible refine LeO.ite ?_ ?_)
   | (with_reducible refine LeO.bind ?_ (fun _ => ?_))
theorem vT.calls (k : Nat) (A0 : Option Addr) (c0 : Nat) (l0 : List Int) (A1 : Option Addr) (c1 : Nat) (l1 : List Int) (r : Bool) (w : World) (hr0 : Kd.C (Kd.int .u64) w A0 l0.length l0) (hc0 : l0.length ≤ c0) (hr1 : Kd.C (Kd.int .u64) w A1 l1.length l1) (hc1 : l1.length ≤ c1) (h : vT.f k l0 l1 = some r) :
  Calls Try.prog 47 #[.slice A0 l0.length c0, .slice A1 l1.length c1] w fun e w' => e = .returned (.bool r) ∧ za w w' := by
 have HR0 := jA.mk hr0
 have HC0 := jA.mk hc0
 clear hr0 hc0
 have HR1 := jA.mk hr1
 have HC1 := jA.mk hc1
 clear hr1 hc1
 have H : ((ji.f k l0 l1).bind fun t103 => (some t103)) = some r := h
 clear h
 replace H := ob_ H
 obtain ⟨t103, A30, H⟩ := H
 replace H : (some t103) = some r := H
 have A3 := jA.mk A30
 clear A30
 obtain rfl := Option.some.inj H
 go_enter Try.func47, Try.ntmps47
 go_wp2_with (first | ((with_reducible refine jH (f := 85) rfl ?_); refine gl_ (some 7) Try.func85 #[.slice A0 l0.length c0, .slice A1 l1.length c1] ?_; (with_reducible refine (ji.calls k _ _ l0 _ _ l1 t103 _ ?side1 ?side2 ?side3 ?side4 A3.out).mono ?_); (case side1 => exact cc_ HR0.out); (case side2 => exact HC0.out); (case side3 => exact cc_ HR1.out); (case side4 => exact HC1.out); rintro e w' ⟨rfl, ⟨nd, rfl⟩⟩; refine ⟨_, rfl, ?_⟩))
 go_ret
 exact ⟨by first | rfl | (simp; done) | (simp [*]; done), by repeat (first | exact za.refl _ | apply za.step)⟩
def vC.f (k : Nat) (a0_0 : Bool) (l0_1 : List Int) (l0_2 : List Int) (a1_0 : Bool) (l1_1 : List Int) (l1_2 : List Int) : Option (Bool) := if (a0_0 == a1_0) = true then ((vT.f k l0_1 l1_1).bind fun t106 => (if t106 = true then ((vT.f k l0_2 l1_2).bind fun t107 => (some t107)) else (some false))) else (some false)
theorem vC.mono : ∀ a0 a1 a2 a3 a4 a5 k, LeO (vC.f k a0 a1 a2 a3 a4 a5) (vC.f (k + 1) a0 a1 a2 a3 a4 a5) := by
 intro a0 a1 a2 a3 a4 a5 k
 unfold vC.f
 repeat' first
   | (with_reducible exact vT.mono _ _ _)
   | (with_reducible exact LeO.refl _)
   | (with_reducible exact LeO.none _)
   | (with_reducible refine LeO.ite ?_ ?_)
   | (with_reducible refine LeO.bind ?_ (fun _ => ?_))
theorem vC.calls (k : Nat) (a0_0 : Bool) (A0_1 : Option Addr) (c0_1 : Nat) (l0_1 : List Int) (A0_2 : Option Addr) (c0_2 : Nat) (l0_2 : List Int) (a1_0 : Bool) (A1_1 : Option Addr) (c1_1 : Nat) (l1_1 : List Int) (A1_2 : Option Addr) (c1_2 : Nat) (l1_2 : List Int) (r : Bool) (w : World) (hr0_1 : Kd.C (Kd.int .u64) w A0_1 l0_1.length l0_1) (hc0_1 : l0_1.length ≤ c0_1) (hr0_2 : Kd.C (Kd.int .u64) w A0_2 l0_2.length l0_2) (hc0_2 : l0_2.length ≤ c0_2) (hr1_1 : Kd.C (Kd.int .u64) w A1_1 l1_1.length l1_1) (hc1_1 : l1_1.length ≤ c1_1) (hr1_2 : Kd.C (Kd.int .u64) w A1_2 l1_2.length l1_2) (hc1_2 : l1_2.length ≤ c1_2) (h : vC.f k a0_0 l0_1 l0_2 a1_0 l1_1 l1_2 = some r) :
  Calls Try.prog 26 #[.agg #[.bool a0_0, .slice A0_1 l0_1.length c0_1, .slice A0_2 l0_2.length c0_2], .agg #[.bool a1_0, .slice A1_1 l1_1.length c1_1, .slice A1_2 l1_2.length c1_2]] w fun e w' => e = .returned (.bool r) ∧ Below w.heap.size w w' := by
 have hu44 := Try.underlying44
 have HR0_1 := jA.mk hr0_1
 have HC0_1 := jA.mk hc0_1
 clear hr0_1 hc0_1
 have HR0_2 := jA.mk hr0_2
 have HC0_2 := jA.mk hc0_2
 clear hr0_2 hc0_2
 have HR1_1 := jA.mk hr1_1
 have HC1_1 := jA.mk hc1_1
 clear hr1_1 hc1_1
 have HR1_2 := jA.mk hr1_2
 have HC1_2 := jA.mk hc1_2
 clear hr1_2 hc1_2
 have HB := jA.mk (Below.refl w.heap.size w)
 have H : (if (a0_0 == a1_0) = true then ((vT.f k l0_1 l1_1).bind fun t106 => (if t106 = true then ((vT.f k l0_2 l1_2).bind fun t107 => (some t107)) else (some false))) else (some false)) = some r := h
 clear h
 by_cases c3 : (a0_0 == a1_0) = true
 ·
  rw [if_pos c3] at H
  have c3b0 : (a0_0 == a1_0) = true := c3
  (try (have c3b1 : decide (a0_0 = a1_0) = true := by simpa using c3))
  (try (have c3b2 : (a0_0 == a1_0) = true := by simpa using c3))
  clear c3
  obtain ⟨t106, A4, H⟩ := oc_ H
  try dsimp only at H
  by_cases c5 : t106 = true
  ·
   subst c5
   replace H := ip_ H
   replace H := ob_ H
   obtain ⟨t107, A60, H⟩ := H
   replace H : (some t107) = some r := H
   have A6 := jA.mk A60
   clear A60
   obtain rfl := Option.some.inj H
   go_enter Try.func26, Try.ntmps26
   go_wp2_with (first | ((with_reducible refine jX (N := 2) rfl ?_); refine bx_ 2 #[.bool a0_0, .slice A0_1 l0_1.length c0_1, .slice A0_2 l0_2.length c0_2] 44 ?_; intro gb104 hg w7 hbox hb; have BK104 := jA.mk (hbox); have GW104 := jA.mk ((by rw [hg]; exact (jC (bb_ HB)) : w.heap.size ≤ gb104)); have GE104 := GW104; replace HB := bs_ HB hb; clear hb hbox hg) | ((with_reducible refine jX (N := 3) rfl ?_); refine bx_ 3 #[.bool a1_0, .slice A1_1 l1_1.length c1_1, .slice A1_2 l1_2.length c1_2] 44 ?_; intro gb105 hg w8 hbox hb; have BK105 := jA.mk (hbox); have GW105 := jA.mk ((by rw [hg]; exact (jC (bb1_ HB GE104)) : w.heap.size ≤ gb105)); have GE105 := GW105; replace HB := jA.mk (jI (bb1_ HB GE104) hb); have NB104_105 := jA.mk ((by rw [hg]; exact nlt_ BK104 : gb104 ≠ gb105)); have NB105_104 := jA.mk ((by rw [hg]; exact ngt_ BK104 : gb105 ≠ gb104)); replace BK104 := bk_ BK104 hb; clear hb hbox hg; have hnb9 := NB104_105.out; have hnc9 := NB105_104.out; obtain ⟨hcz10_0, hcz10_1, hcz10_2, hfz10_0, hfz10_1, hfz10_2⟩ := bf3_ BK104; obtain ⟨hcz11_0, hcz11_1, hcz11_2, hfz11_0, hfz11_1, hfz11_2⟩ := bf3_ BK105) | ((with_reducible refine jX (N := 15) rfl ?_); refine jr (by first | rfl | kernel_rfl) ?_; dsimp only; (with_reducible refine jH (f := 47) rfl ?_); refine gl_ (some 15) Try.func47 #[.slice A0_1 l0_1.length c0_1, .slice A1_1 l1_1.length c1_1] ?_; (with_reducible refine (vT.calls k _ _ l0_1 _ _ l1_1 true _ ?side1 ?side2 ?side3 ?side4 A4.out).mono ?_); (case side1 => exact cb_ HR0_1 HB); (case side2 => exact HC0_1.out); (case side3 => exact cb_ HR1_1 HB); (case side4 => exact HC1_1.out); rintro e w' ⟨rfl, ⟨nd, rfl⟩⟩; refine ⟨_, rfl, ?_⟩) | ((with_reducible refine jX (N := 22) rfl ?_); refine jr (by first | rfl | kernel_rfl) ?_; dsimp only; (with_reducible refine jH (f := 47) rfl ?_); refine gl_ (some 22) Try.func47 #[.slice A0_2 l0_2.length c0_2, .slice A1_2 l1_2.length c1_2] ?_; (with_reducible refine (vT.calls k _ _ l0_2 _ _ l1_2 t107 _ ?side1 ?side2 ?side3 ?side4 A6.out).mono ?_); (case side1 => repeat (first | exact (Kd.zl HR0_2.out (bb2_ HB GE104 GE105)) | (with_reducible refine Kd.zJ ?_ _) | (with_reducible refine Kd.zU ?_ _) | (with_reducible refine Kd.zx ?_))); (case side2 => exact HC0_2.out); (case side3 => repeat (first | exact (Kd.zl HR1_2.out (bb2_ HB GE104 GE105)) | (with_reducible refine Kd.zJ ?_ _) | (with_reducible refine Kd.zU ?_ _) | (with_reducible refine Kd.zx ?_))); (case side4 => exact HC1_2.out); rintro e w' ⟨rfl, ⟨nd, rfl⟩⟩; refine ⟨_, rfl, ?_⟩))
   go_ret
   exact ⟨ew_, (bb2_ HB GE104 GE105)⟩
  ·
   replace c5 := Bool.eq_false_iff.mpr c5
   subst c5
   replace H := in_ H
   obtain rfl := Option.some.inj H
   go_enter Try.func26, Try.ntmps26
   go_wp2_with (first | ((with_reducible refine jX (N := 2) rfl ?_); refine bx_ 2 #[.bool a0_0, .slice A0_1 l0_1.length c0_1, .slice A0_2 l0_2.length c0_2] 44 ?_; intro gb104 hg w12 hbox hb; have BK104 := jA.mk (hbox); have GW104 := jA.mk ((by rw [hg]; exact (jC (bb_ HB)) : w.heap.size ≤ gb104)); have GE104 := GW104; replace HB := bs_ HB hb; clear hb hbox hg) | ((with_reducible refine jX (N := 3) rfl ?_); refine bx_ 3 #[.bool a1_0, .slice A1_1 l1_1.length c1_1, .slice A1_2 l1_2.length c1_2] 44 ?_; intro gb105 hg w13 hbox hb; have BK105 := jA.mk (hbox); have GW105 := jA.mk ((by rw [hg]; exact (jC (bb1_ HB GE104)) : w.heap.size ≤ gb105)); have GE105 := GW105; replace HB := jA.mk (jI (bb1_ HB GE104) hb); have NB104_105 := jA.mk ((by rw [hg]; exact nlt_ BK104 : gb104 ≠ gb105)); have NB105_104 := jA.mk ((by rw [hg]; exact ngt_ BK104 : gb105 ≠ gb104)); replace BK104 := bk_ BK104 hb; clear hb hbox hg; have hnb14 := NB104_105.out; have hnc14 := NB105_104.out; obtain ⟨hcz15_0, hcz15_1, hcz15_2, hfz15_0, hfz15_1, hfz15_2⟩ := bf3_ BK104; obtain ⟨hcz16_0, hcz16_1, hcz16_2, hfz16_0, hfz16_1, hfz16_2⟩ := bf3_ BK105) | ((with_reducible refine jX (N := 15) rfl ?_); refine jr (by first | rfl | kernel_rfl) ?_; dsimp only; (with_reducible refine jH (f := 47) rfl ?_); refine gl_ (some 15) Try.func47 #[.slice A0_1 l0_1.length c0_1, .slice A1_1 l1_1.length c1_1] ?_; (with_reducible refine (vT.calls k _ _ l0_1 _ _ l1_1 false _ ?side1 ?side2 ?side3 ?side4 A4.out).mono ?_); (case side1 => exact cb_ HR0_1 HB); (case side2 => exact HC0_1.out); (case side3 => exact cb_ HR1_1 HB); (case side4 => exact HC1_1.out); rintro e w' ⟨rfl, ⟨nd, rfl⟩⟩; refine ⟨_, rfl, ?_⟩))
   go_ret
   exact ⟨ew_, (bb2_ HB GE104 GE105)⟩
 ·
  rw [if_neg c3] at H
  have c3b0 : (a0_0 == a1_0) = false := by simpa using c3
  (try (have c3b1 : decide (a0_0 = a1_0) = false := by simpa using c3))
  (try (have c3b2 : (a0_0 == a1_0) = false := by simpa using c3))
  (try (have c3b3 : ¬ (a0_0 = a1_0) := by simpa using c3))
  clear c3
  obtain rfl := Option.some.inj H
  go_enter Try.func26, Try.ntmps26
  go_wp2_with (first | ((with_reducible refine jX (N := 2) rfl ?_); refine bx_ 2 #[.bool a0_0, .slice A0_1 l0_1.length c0_1, .slice A0_2 l0_2.length c0_2] 44 ?_; intro gb104 hg w17 hbox hb; have BK104 := jA.mk (hbox); have GW104 := jA.mk ((by rw [hg]; exact (jC (bb_ HB)) : w.heap.size ≤ gb104)); have GE104 := GW104; replace HB := bs_ HB hb; clear hb hbox hg) | ((with_reducible refine jX (N := 3) rfl ?_); refine bx_ 3 #[.bool a1_0, .slice A1_1 l1_1.length c1_1, .slice A1_2 l1_2.length c1_2] 44 ?_; intro gb105 hg w18 hbox hb; have BK105 := jA.mk (hbox); have GW105 := jA.mk ((by rw [hg]; exact (jC (bb1_ HB GE104)) : w.heap.size ≤ gb105)); have GE105 := GW105; replace HB := jA.mk (jI (bb1_ HB GE104) hb); have NB104_105 := jA.mk ((by rw [hg]; exact nlt_ BK104 : gb104 ≠ gb105)); have NB105_104 := jA.mk ((by rw [hg]; exact ngt_ BK104 : gb105 ≠ gb104)); replace BK104 := bk_ BK104 hb; clear hb hbox hg; have hnb19 := NB104_105.out; have hnc19 := NB105_104.out; obtain ⟨hcz20_0, hcz20_1, hcz20_2, hfz20_0, hfz20_1, hfz20_2⟩ := bf3_ BK104; obtain ⟨hcz21_0, hcz21_1, hcz21_2, hfz21_0, hfz21_1, hfz21_2⟩ := bf3_ BK105))
  go_ret
  exact ⟨ew_, (bb2_ HB GE104 GE105)⟩
def zF.f (a0_0 : Bool) (l0_1 : List Int) (l0_2 : List Int) : Option (Bool) := some ((l0_1.length : Int) == 0)
theorem zF.calls (a0_0 : Bool) (A0_1 : Option Addr) (c0_1 : Nat) (l0_1 : List Int) (A0_2 : Option Addr) (c0_2 : Nat) (l0_2 : List Int) (r : Bool) (w : World) (hr0_1 : Kd.C (Kd.int .u64) w A0_1 l0_1.length l0_1) (hc0_1 : l0_1.length ≤ c0_1) (hr0_2 : Kd.C (Kd.int .u64) w A0_2 l0_2.length l0_2) (hc0_2 : l0_2.length ≤ c0_2) (h : zF.f a0_0 l0_1 l0_2 = some r) :
  Calls Try.prog 54 #[.agg #[.bool a0_0, .slice A0_1 l0_1.length c0_1, .slice A0_2 l0_2.length c0_2]] w fun e w' => e = .returned (.bool r) ∧ Below w.heap.size w w' := by
 have hu44 := Try.underlying44
 have HR0_1 := jA.mk hr0_1
 have HC0_1 := jA.mk hc0_1
 clear hr0_1 hc0_1
 have HR0_2 := jA.mk hr0_2
 have HC0_2 := jA.mk hc0_2
 clear hr0_2 hc0_2
 have HB := jA.mk (Below.refl w.heap.size w)
 have H : (some ((l0_1.length : Int) == 0)) = some r := h
 clear h
 obtain rfl := Option.some.inj H
 go_enter Try.func54, Try.ntmps54
 go_wp2_with (first | ((with_reducible refine jX (N := 1) rfl ?_); refine bx_ 1 #[.bool a0_0, .slice A0_1 l0_1.length c0_1, .slice A0_2 l0_2.length c0_2] 44 ?_; intro gb108 hg w2 hbox hb; have BK108 := jA.mk (hbox); have GW108 := jA.mk ((by rw [hg]; exact (jC (bb_ HB)) : w.heap.size ≤ gb108)); have GE108 := GW108; replace HB := bs_ HB hb; clear hb hbox hg; obtain ⟨hcz3_0, hcz3_1, hcz3_2, hfz3_0, hfz3_1, hfz3_2⟩ := bf3_ BK108))
 go_ret
 exact ⟨ew_, (bb1_ HB GE108)⟩
def qR.f (l0 : List Int) : Option (Bool) := if (l0.length : Int) ≤ 8 then (if (l0.length : Int) = 0 then (some true) else (if 0 ≤ (wrap64 ((l0.length : Int) - 1)) then (if (wrap64 ((l0.length : Int) - 1)) < (l0.length : Int) then (some ((rd l0 (wrap64 ((l0.length : Int) - 1))) != 0)) else (none)) else (none))) else (some false)
theorem qR.calls (A0 : Option Addr) (c0 : Nat) (l0 : List Int) (r : Bool) (w : World) (hr0 : Kd.C (Kd.int .u64) w A0 l0.length l0) (hc0 : l0.length ≤ c0) (h : qR.f l0 = some r) :
  Calls Try.prog 64 #[.slice A0 l0.length c0] w fun e w' => e = .returned (.bool r) ∧ za w w' := by
 have HR0 := jA.mk hr0
 have HC0 := jA.mk hc0
 clear hr0 hc0
 have H : (if (l0.length : Int) ≤ 8 then (if (l0.length : Int) = 0 then (some true) else (if 0 ≤ (wrap64 ((l0.length : Int) - 1)) then (if (wrap64 ((l0.length : Int) - 1)) < (l0.length : Int) then (some ((rd l0 (wrap64 ((l0.length : Int) - 1))) != 0)) else (none)) else (none))) else (some false)) = some r := h
 clear h
 by_cases c2 : (l0.length : Int) ≤ 8
 ·
  rw [if_pos c2] at H
  have c2b0 := decide_eq_true c2
  have c2b1 : decide (l0.length ≤ 8) = true := decide_eq_true (by omega)
  clear c2
  by_cases c3 : (l0.length : Int) = 0
  ·
   rw [if_pos c3] at H
   have c3b0 := beq_iff_eq.mpr c3
   have c3b1 := bne_eq_false_iff_eq.mpr c3
   clear c3
   obtain rfl := Option.some.inj H
   go_enter Try.func64, Try.ntmps64
   go_wp2
   go_ret
   exact ⟨by first | rfl | (simp; done) | (simp [*]; done), by repeat (first | exact za.refl _ | apply za.step)⟩
  ·
   rw [if_neg c3] at H
   have c3b0 := beq_eq_false_iff_ne.mpr c3
   have c3b1 := bne_iff_ne.mpr c3
   have c3b2 : ¬ (l0 = []) := fun h_ => c3 (by rw [h_]; rfl)
   obtain ⟨ji4, hji4⟩ : ∃ j_ : Int, (wrap64 ((l0.length : Int) - 1)) = j_ := ⟨_, rfl⟩
   replace H : (if 0 ≤ (ji4) then (if (ji4) < (l0.length : Int) then (some ((rd l0 (ji4)) != 0)) else (none)) else (none)) = some r := by first | (rw [hji4] at H; exact H) | (simp only [hji4] at H ⊢; exact H)
   have hji4w : (IntKind.i64.wrap ((l0.length : Int) - 1)) = ji4 := (qZ _).trans hji4
   by_cases c5 : 0 ≤ (ji4)
   ·
    rw [if_pos c5] at H
    have c5b0 := decide_eq_true c5
    clear c5
    by_cases c6 : (ji4) < (l0.length : Int)
    ·
     rw [if_pos c6] at H
     have c6b0 := decide_eq_true c6
     clear c6
     obtain rfl := Option.some.inj H
     have p109 : 0 ≤ ((ji4) : Int) := of_decide_eq_true am_
     have q109 : (ji4) < (l0.length : Int) := of_decide_eq_true am_
     obtain ⟨ad109, e109, hx109_0⟩ := Kd.vw HR0.out (ji4) p109 q109
     cases e109
     replace p109 := eq_true p109
     replace q109 := eq_true q109
     go_enter Try.func64, Try.ntmps64
     go_wp2
     go_ret
     exact ⟨by first | rfl | (simp; done) | (simp only [← hji4] <;> (first | rfl | simp)) | (simp [*]; done), by repeat (first | exact za.refl _ | apply za.step)⟩
    ·
     rw [if_neg c6] at H
     exact absurd H (by simp)
   ·
    rw [if_neg c5] at H
    exact absurd H (by simp)
 ·
  rw [if_neg c2] at H
  have c2b0 := decide_eq_false c2
  have c2b1 : decide (l0.length ≤ 8) = false := decide_eq_false (by omega)
  clear c2
  obtain rfl := Option.some.inj H
  go_enter Try.func64, Try.ntmps64
  go_wp2
  go_ret
  exact ⟨by first | rfl | (simp; done) | (simp [*]; done), by repeat (first | exact za.refl _ | apply za.step)⟩
def jBW.f (a0 : Int) : Option (List Int) := if a0 = 0 then (some ([] : List Int)) else (some (([a0] : List Int)))
theorem jBW.calls (a0 : Int) (r : List Int) (w : World) (h : jBW.f a0 = some r) :
  Calls Try.prog 81 #[.int .u64 a0] w fun e w' => ∃ v0_ : Value, e = .returned (v0_) ∧ Kd.R (Kd.int .u64) 22 w' w.heap.size (fun _ => True) v0_ r ∧ Below w.heap.size w w' := by
 have HB := jA.mk (Below.refl w.heap.size w)
 have H : (if a0 = 0 then (some ([] : List Int)) else (some (([a0] : List Int)))) = some r := h
 clear h
 by_cases c2 : a0 = 0
 ·
  rw [if_pos c2] at H
  have c2b0 := beq_iff_eq.mpr c2
  have c2b1 := bne_eq_false_iff_eq.mpr c2
  clear c2
  obtain rfl := Option.some.inj H
  go_enter Try.func81, Try.ntmps81
  go_wp2
  go_ret
  exact ⟨_, ew_, nl_, (bb_ HB)⟩
 ·
  rw [if_neg c2] at H
  have c2b0 := beq_eq_false_iff_ne.mpr c2
  have c2b1 := bne_iff_ne.mpr c2
  obtain ⟨y110, hy110⟩ : ∃ y_ : List Int, y_ = (([a0] : List Int)) := ⟨_, rfl⟩
  replace H : (some y110) = some r := by first | (rw [hy110]; with_reducible exact H) | (have H2_ := (Option.bind_some _ _).symm.trans H; rw [hy110]; with_reducible exact H2_) | (with_reducible exact hs_ H) | with_reducible exact H | (rw [hy110]; exact H) | exact H
  have Ny110 := jA.mk hy110
  clear hy110
  obtain rfl := Option.some.inj H
  go_enter Try.func81, Try.ntmps81
  go_wp2_with (first | ((with_reducible refine jX (N := 6) rfl ?_); refine Kd.jAC (Kd.int .u64) _ 22 ?hg (N := 6) ?hd (xs := ([a0] : List Int)) (inner := [.int .u64 a0]) (ok := fun _ => True) (okp := fun _ => True) ?hr ?hp (fun _ hk => hk) trivial (Below.refl _ _) (Nat.le_refl _) (by simp) ?_; (case hd => rfl); (case hg => rfl); (case hr => exact gs_); (case hp => exact (Reps.one (show Kd.M (Kd.int .u64) _ _ _ a0 [.int .u64 a0] from rfl) (Reps.none _ _))); intro v111 w3 ho4 hb hg_ hnew_; clear hg_ hnew_; (first | rw [← Ny110.out] at ho4 | (simp only [Int.reduceToNat] at ho4; rw [← Ny110.out] at ho4)); have HO112 := jA.mk (Kd.jN ho4 (jC (bb_ HB))); replace HB := bs_ HB hb; clear hb ho4))
  go_ret
  exact ⟨_, ew_, (rR_ HO112), (bb_ HB)⟩
def jQ.l0 : Nat → List Int → Option (List Int)
 | 0, _ => none
 | k + 1, x0 => if (x0.length : Int) > 0 then (if 0 ≤ (wrap64 ((x0.length : Int) - 1)) then (if (wrap64 ((x0.length : Int) - 1)) < (x0.length : Int) then (if (rd x0 (wrap64 ((x0.length : Int) - 1))) = 0 then (if (wrap64 ((x0.length : Int) - 1)) ≤ (x0.length : Int) then (jQ.l0 k (x0.take ((wrap64 ((x0.length : Int) - 1)) : Int).toNat)) else (none)) else (some x0)) else (none)) else (none)) else (some x0)
def jQ.f (k : Nat) (l0 : List Int) : Option (List Int) := jQ.l0 k l0
theorem jQ.vS : ∀ k, (∀ y0, LeO (jQ.l0 k y0) (jQ.l0 (k + 1) y0))
 | 0 => fun _ r h => by simp [jQ.l0] at h
 | k + 1 => by
  have ih0 := jQ.vS k
  ·
   intro y0
   unfold jQ.l0
   repeat' first
   | (with_reducible exact ih0 _)
   | (with_reducible exact LeO.refl _)
   | (with_reducible exact LeO.none _)
   | (with_reducible refine LeO.ite ?_ ?_)
   | (with_reducible refine LeO.bind ?_ (fun _ => ?_))
theorem jQ.mono : ∀ a0 k, LeO (jQ.f k a0) (jQ.f (k + 1) a0) := by
 intro a0 k
 have ih0 := jQ.vS k
 unfold jQ.f
 repeat' first
   | (with_reducible exact ih0 _)
   | (with_reducible exact LeO.refl _)
   | (with_reducible exact LeO.none _)
   | (with_reducible refine LeO.ite ?_ ?_)
   | (with_reducible refine LeO.bind ?_ (fun _ => ?_))
theorem jQ.calls (k : Nat) (P0_ : Nat → Prop) (A0 : Option Addr) (c0 : Nat) (l0 : List Int) (r : List Int) (w : World) (hs0 : Kd.V (Kd.int .u64) 22 w w.heap.size (fun k_ => P0_ k_) (.slice A0 l0.length c0) l0) (h : jQ.f k l0 = some r) :
  Calls Try.prog 110 #[.slice A0 l0.length c0] w fun e w' => ∃ v0_ : Value, e = .returned (v0_) ∧ Kd.V (Kd.int .u64) 22 w' w.heap.size (fun k_ => (P0_ k_ ∨ w.heap.size ≤ k_)) v0_ r ∧ Below w.heap.size w w' := by
 have HO0 := jA.mk (show Kd.V (Kd.int .u64) 22 w w.heap.size (fun k_ => (P0_ k_ ∨ w.heap.size ≤ k_)) (.slice A0 l0.length c0) l0 from Kd.vZ hs0 (fun k_ hk => .inl hk))
 have HB := jA.mk (Below.refl w.heap.size w)
 have H : (jQ.l0 k l0) = some r := h
 clear h
 have H' := jA.mk H
 clear H
 go_enter Try.func110, Try.ntmps110
 go_wp2
 go_loopg [0] k (fun kq v0 w' => ∃ (x0_1 : List Int), jA (jQ.l0 kq x0_1 = some r) ∧ jA (kq ≤ k) ∧ jA (Kd.V (Kd.int .u64) 22 w' w.heap.size (fun k_ => (P0_ k_ ∨ w.heap.size ≤ k_)) v0 x0_1) ∧ jA (Below w.heap.size w w'))
 case atStart => exact ⟨(l0), H', ⟨Nat.le_refl _⟩, ⟨(rV_ HO0)⟩, ⟨(bb_ HB)⟩⟩
 case round =>
  clear H'
  try clear c1
  obtain ⟨x0_1, HA, HK1, HO_0, HB⟩ := hrel
  cases gk with
  | zero => exact absurd HA.out (by simp [jQ.l0])
  | succ k1 =>
   have H := HA.out
   clear HA
   simp only [jQ.l0] at H
   by_cases c2 : (x0_1.length : Int) > 0
   ·
    rw [if_pos c2] at H
    have c2b0 := decide_eq_true c2
    have c2b1 : decide (0 < x0_1.length) = true := decide_eq_true (by omega)
    clear c2
    obtain ⟨ji3, hji3⟩ : ∃ j_ : Int, (wrap64 ((x0_1.length : Int) - 1)) = j_ := ⟨_, rfl⟩
    replace H : (if 0 ≤ (ji3) then (if (ji3) < (x0_1.length : Int) then (if (rd x0_1 (ji3)) = 0 then (if (ji3) ≤ (x0_1.length : Int) then (jQ.l0 k1 (x0_1.take ((ji3) : Int).toNat)) else (none)) else (some x0_1)) else (none)) else (none)) = some r := by first | (rw [hji3] at H; exact H) | (simp only [hji3] at H ⊢; exact H)
    have hji3w : (IntKind.i64.wrap ((x0_1.length : Int) - 1)) = ji3 := (qZ _).trans hji3
    by_cases c4 : 0 ≤ (ji3)
    ·
     rw [if_pos c4] at H
     have c4b0 := decide_eq_true c4
     clear c4
     by_cases c5 : (ji3) < (x0_1.length : Int)
     ·
      rw [if_pos c5] at H
      have c5b0 := decide_eq_true c5
      clear c5
      by_cases c6 : (rd x0_1 (ji3)) = 0
      ·
       rw [if_pos c6] at H
       have c6b0 := beq_iff_eq.mpr c6
       have c6b1 := bne_eq_false_iff_eq.mpr c6
       clear c6
       have c7b0 := eq_true (of_decide_eq_true am_ : 0 ≤ (ji3))
       by_cases c8 : (ji3) ≤ (x0_1.length : Int)
       ·
        rw [if_pos c8] at H
        have c8b0 := eq_true c8
        have c8b1 := decide_eq_true c8
        clear c8
        obtain ⟨y114, hy114⟩ : ∃ y_ : List Int, y_ = (x0_1.take ((ji3) : Int).toNat) := ⟨_, rfl⟩
        replace H : (jQ.l0 k1 y114) = some r := by first | (rw [hy114]; with_reducible exact H) | (have H2_ := (Option.bind_some _ _).symm.trans H; rw [hy114]; with_reducible exact H2_) | (with_reducible exact hs_ H) | with_reducible exact H | (rw [hy114]; exact H) | exact H
        have Ny114 := jA.mk hy114
        clear hy114
        have H' := jA.mk H
        clear H
        obtain ⟨Ao9, co9, eo9⟩ := Kd.zR HO_0.out
        subst eo9
        have p113 : 0 ≤ ((ji3) : Int) := of_decide_eq_true am_
        have q113 : (ji3) < (x0_1.length : Int) := of_decide_eq_true am_
        obtain ⟨ad113, e113, hx113_0⟩ := Kd.vw (Kd.vD HO_0.out).2.2 (ji3) p113 q113
        cases e113
        replace p113 := eq_true p113
        replace q113 := eq_true q113
        have q10 : ((ji3) : Int) ≤ ((x0_1.length : Int) : Int) := of_decide_eq_true am_
        obtain ⟨i010, hi010, _, hsz10, _⟩ := info_parts qI
        have hroom10 : x0_1.length ≤ co9 := (Kd.vD HO_0.out).2.1
        have hC10 : Kd.F (Kd.int .u64) _ _ (some ad113) x0_1.length x0_1 := (Kd.V_at (base := w.heap.size) HO_0.out).2.2
        have hcut10 := jGQ (P := Try.prog) 35 22 .i64 Try.underlying35 hi010 (some ad113) x0_1.length co9 (ji3) (of_decide_eq_true am_) q10 hroom10
        have hr10 := Kd.jKQ (m := ((ji3) : Int).toNat) hC10 (by omega)
        have hy10 : y114.length = ((ji3) : Int).toNat := (by rw [Ny114.out, List.length_take]; omega)
        rw [← Ny114.out] at hr10
        rw [← hy10] at hcut10
        have HO118 := jA.mk (show Kd.V (Kd.int .u64) 22 _ w.heap.size _ (.slice (some ad113) y114.length co9) y114 from Kd.V_mk (by omega) hr10)
        have HC118 := jA.mk (show y114.length ≤ co9 from by omega)
        clear hr10 hC10 hroom10 hi010 hsz10
        have KY10 := jA.mk hy10
        clear hy10
        replace q10 := eq_true q10
        go_wp2
        go_roundg k1
        case measure => have := HK1.out; omega
        case rel => exact ⟨(y114), H', ⟨by have := HK1.out; omega⟩, ⟨(rV_ HO118)⟩, ⟨(bb_ HB)⟩⟩
       ·
        rw [if_neg c8] at H
        exact absurd H (by simp)
      ·
       rw [if_neg c6] at H
       have c6b0 := beq_eq_false_iff_ne.mpr c6
       have c6b1 := bne_iff_ne.mpr c6
       obtain rfl := Option.some.inj H
       obtain ⟨Ao11, co11, eo11⟩ := Kd.zR HO_0.out
       subst eo11
       have p113 : 0 ≤ ((ji3) : Int) := of_decide_eq_true am_
       have q113 : (ji3) < (x0_1.length : Int) := of_decide_eq_true am_
       obtain ⟨ad113, e113, hx113_0⟩ := Kd.vw (Kd.vD HO_0.out).2.2 (ji3) p113 q113
       cases e113
       replace p113 := eq_true p113
       replace q113 := eq_true q113
       go_wp2
       go_ret
       exact ⟨_, by first | rfl | (simp [vY, vX] <;> rfl) | (simp only [← hji3]; first | rfl | (simp [vY, vX] <;> rfl)) | (simp [*, vY, vX] <;> rfl), (rV_ HO_0), (bb_ HB)⟩
     ·
      rw [if_neg c5] at H
      exact absurd H (by simp)
    ·
     rw [if_neg c4] at H
     exact absurd H (by simp)
   ·
    rw [if_neg c2] at H
    have c2b0 := decide_eq_false c2
    have c2b1 : decide (0 < x0_1.length) = false := decide_eq_false (by omega)
    clear c2
    obtain rfl := Option.some.inj H
    obtain ⟨Ao12, co12, eo12⟩ := Kd.zR HO_0.out
    subst eo12
    go_wp2
    go_ret
    exact ⟨_, ew_, (rV_ HO_0), (bb_ HB)⟩
/-- What two stores, into the row and into the carry's block, leave. -/
theorem jBN {w wr : World} {gx gc ga i n cx base : Nat} {vx : Value} {xs : List Int} {c s c' : Int} {ok : Nat → Prop} (h1 : wr.heap[gx]? = some (.cells #[vx] 35 (0, 0))) (h2 : wr.heap[gc]? = some (.cells #[.int .u64 c] 22 (0, 0)))
  (h3 : Kd.R (Kd.int .u64) 22 wr base ok (.slice (some ⟨ga, 0, none⟩) n cx) xs) (h4 : Below w.heap.size w wr) (n1 : gx ≠ ga) (n2 : gc ≠ ga) (n3 : gx ≠ gc) (n4 : w.heap.size ≤ ga) (n5 : w.heap.size ≤ gc) (hok : ∀ k, ok k → k ≠ gc) :
  ((wr.setCell ⟨ga, i, none⟩ (.int .u64 s)).setCell ⟨gc, 0, none⟩ (.int .u64 c')).drew.heap[gx]? = some (.cells #[vx] 35 (0, 0)) ∧ ((wr.setCell ⟨ga, i, none⟩ (.int .u64 s)).setCell ⟨gc, 0, none⟩ (.int .u64 c')).drew.heap[gc]? = some (.cells #[.int .u64 c'] 22 (0, 0)) ∧
  Kd.R (Kd.int .u64) 22 ((wr.setCell ⟨ga, i, none⟩ (.int .u64 s)).setCell ⟨gc, 0, none⟩ (.int .u64 c')).drew base ok (.slice (some ⟨ga, 0, none⟩) n cx) (xs.set i s) ∧ Below w.heap.size w ((wr.setCell ⟨ga, i, none⟩ (.int .u64 s)).setCell ⟨gc, 0, none⟩ (.int .u64 c')).drew := by
 refine ⟨vF (qo (qo h1 n1 _) n3 _), vF (jm (qo h2 n2 _) 0 _ rfl), ?_, zI (vI (vI h4 n4) n5)⟩
 have hp := (Kd.qw h3 (i : Int) s).1
 rw [Int.toNat_natCast] at hp
 exact Kd.zZ (Kd.vQ hp hok _)
/-- trim of a row of the caller's own: it stays one. -/
theorem jQ.own (k : Nat) (base : Nat) (ok : Nat → Prop) (A0 : Option Addr) (c0 : Nat) (l0 : List Int) (r : List Int) (w : World) (ho : Kd.R (Kd.int .u64) 22 w base ok (.slice A0 l0.length c0) l0) (h : jQ.f k l0 = some r) :
  Calls Try.prog 110 #[.slice A0 l0.length c0] w fun e w' => ∃ v0_ : Value, e = .returned (v0_) ∧ Kd.R (Kd.int .u64) 22 w' base ok v0_ r ∧ Below w.heap.size w w' := by
 have HO0 := jA.mk ho
 clear ho
 have HB := jA.mk (Below.refl w.heap.size w)
 have H' := jA.mk (show (jQ.l0 k l0) = some r from h)
 clear h
 go_enter Try.func110, Try.ntmps110
 go_wp2
 go_loopg [0] k (fun kq v0 w' => ∃ (x0_1 : List Int), jA (jQ.l0 kq x0_1 = some r) ∧ jA (Kd.R (Kd.int .u64) 22 w' base ok v0 x0_1) ∧ jA (Below w.heap.size w w'))
 case atStart => exact ⟨l0, H', HO0, HB⟩
 case round =>
  clear H'
  obtain ⟨x0_1, HA, HO_0, HB⟩ := hrel
  obtain ⟨Ao9, co9, eo9⟩ := Kd.jV HO_0.out
  subst eo9
  cases gk with
  | zero => exact absurd HA.out (by simp [jQ.l0])
  | succ k1 =>
   have H := HA.out
   clear HA
   simp only [jQ.l0] at H
   by_cases c2 : (x0_1.length : Int) > 0
   ·
    rw [if_pos c2] at H
    have c2b0 := decide_eq_true c2
    have c2b1 : decide (0 < x0_1.length) = true := decide_eq_true (by omega)
    clear c2
    obtain ⟨ji3, hji3⟩ : ∃ j_ : Int, (wrap64 ((x0_1.length : Int) - 1)) = j_ := ⟨_, rfl⟩
    rw [hji3] at H
    have hji3w : (IntKind.i64.wrap ((x0_1.length : Int) - 1)) = ji3 := (qZ _).trans hji3
    by_cases c4 : 0 ≤ (ji3)
    ·
     rw [if_pos c4] at H
     have c4b0 := decide_eq_true c4
     clear c4
     by_cases c5 : (ji3) < (x0_1.length : Int)
     ·
      rw [if_pos c5] at H
      have c5b0 := decide_eq_true c5
      clear c5
      have p103 : 0 ≤ ((ji3) : Int) := of_decide_eq_true am_
      have q103 : (ji3) < (x0_1.length : Int) := of_decide_eq_true am_
      obtain ⟨ad103, e103, hx103_0⟩ := Kd.vw (Kd.jE HO_0.out).2.2 (ji3) p103 q103
      cases e103
      replace p103 := eq_true p103
      replace q103 := eq_true q103
      by_cases c6 : (rd x0_1 (ji3)) = 0
      ·
       rw [if_pos c6] at H
       have c6b0 := beq_iff_eq.mpr c6
       have c6b1 := bne_eq_false_iff_eq.mpr c6
       clear c6
       have c7b0 := eq_true (of_decide_eq_true am_ : 0 ≤ (ji3))
       by_cases c8 : (ji3) ≤ (x0_1.length : Int)
       ·
        rw [if_pos c8] at H
        have c8b0 := eq_true c8
        have c8b1 := decide_eq_true c8
        clear c8
        obtain ⟨y104, hy104⟩ : ∃ y_ : List Int, y_ = (x0_1.take ((ji3) : Int).toNat) := ⟨_, rfl⟩
        rw [← hy104] at H
        have H' := jA.mk H
        clear H
        have q10 : ((ji3) : Int) ≤ ((x0_1.length : Int) : Int) := of_decide_eq_true am_
        obtain ⟨i010, hi010, _, hsz10, _⟩ := info_parts qI
        have hroom10 : x0_1.length ≤ co9 := (Kd.jE HO_0.out).2.1
        have hcut10 := jGQ (P := Try.prog) 35 22 .i64 Try.underlying35 hi010 (some ad103) x0_1.length co9 (ji3) (of_decide_eq_true am_) q10 hroom10
        have hr10 := Kd.jIC (m := ((ji3) : Int).toNat) HO_0.out (by omega)
        have hy10 : y104.length = ((ji3) : Int).toNat := (by rw [hy104, List.length_take]; omega)
        rw [← hy104, ← hy10] at hr10
        rw [← hy10] at hcut10
        have HO108 := jA.mk hr10
        clear hr10 hroom10 hi010 hsz10 hy104
        have KY10 := jA.mk hy10
        clear hy10
        replace q10 := eq_true q10
        go_wp2
        go_roundg k1
        case measure => omega
        case rel => exact ⟨(y104), H', HO108, HB⟩
       ·
        rw [if_neg c8] at H
        exact absurd H (by simp)
      ·
       rw [if_neg c6] at H
       have c6b0 := beq_eq_false_iff_ne.mpr c6
       have c6b1 := bne_iff_ne.mpr c6
       obtain rfl := Option.some.inj H
       go_wp2
       go_ret
       exact ⟨_, rfl, HO_0.out, HB.out⟩
     ·
      rw [if_neg c5] at H
      exact absurd H (by simp)
    ·
     rw [if_neg c4] at H
     exact absurd H (by simp)
   ·
    rw [if_neg c2] at H
    have c2b0 := decide_eq_false c2
    have c2b1 : decide (0 < x0_1.length) = false := decide_eq_false (by omega)
    clear c2
    obtain rfl := Option.some.inj H
    go_wp2
    go_ret
    exact ⟨_, rfl, HO_0.out, HB.out⟩
/-- trim of a row that is only read: its beginning. -/
theorem jQ.read (k : Nat) (A0 : Option Addr) (c0 : Nat) (l0 : List Int) (r : List Int) (w : World) (hr : Kd.C (Kd.int .u64) w A0 l0.length l0) (hc : l0.length ≤ c0) (h : jQ.f k l0 = some r) :
  Calls Try.prog 110 #[.slice A0 l0.length c0] w fun e w' => e = .returned (.slice A0 r.length c0) ∧ r = l0.take r.length ∧ w' = w := by
 have HR0 := jA.mk hr
 have HC0 := jA.mk hc
 clear hr hc
 have H' := jA.mk (show (jQ.l0 k (l0.take l0.length)) = some r from by rw [List.take_length]; exact h)
 clear h
 go_enter Try.func110, Try.ntmps110
 go_wp2
 go_loopg [0] k (fun kq v0 w' => ∃ (m : Nat), v0 = .slice A0 m c0 ∧ m ≤ l0.length ∧ jA (jQ.l0 kq (l0.take m) = some r) ∧ w = w')
 case atStart => exact ⟨_, rfl, Nat.le_refl _, H', rfl⟩
 case round =>
  clear H'
  obtain ⟨m, rfl, hm, HA, rfl⟩ := hrel
  have hlen : (l0.take m).length = m := by rw [List.length_take]; omega
  cases gk with
  | zero => exact absurd HA.out (by simp [jQ.l0])
  | succ k1 =>
   have H := HA.out
   clear HA
   simp only [jQ.l0, hlen] at H
   have HM := jA.mk hm
   have HL := jA.mk hlen
   clear hlen
   by_cases c2 : (m : Int) > 0
   ·
    rw [if_pos c2] at H
    have c2b0 := decide_eq_true c2
    have c2b1 : decide (0 < m) = true := decide_eq_true (by omega)
    have hmb : (m : Int) ≤ 9223372036854775807 := by have := HR0.out.2.1; omega
    obtain ⟨ji3, hji3⟩ : ∃ j_ : Int, (wrap64 ((m : Int) - 1)) = j_ := ⟨_, rfl⟩
    rw [hji3] at H
    have hjm : ji3 = (m : Int) - 1 := by rw [← hji3]; unfold wrap64; omega
    have hji3w : (IntKind.i64.wrap ((m : Int) - 1)) = ji3 := (qZ _).trans hji3
    rw [if_pos (by omega), if_pos (by omega)] at H
    have hrd : rd (l0.take m) ji3 = rd l0 ji3 := by
     unfold rd
     rw [List.getD_eq_getElem?_getD, List.getD_eq_getElem?_getD, List.getElem?_take_of_lt (by omega)]
    rw [hrd] at H
    have p103 : 0 ≤ ji3 := by omega
    have q103 : ji3 < (m : Int) := by omega
    obtain ⟨ad103, e103, hx103_0⟩ := Kd.vw HR0.out ji3 p103 (by omega)
    cases e103
    have HJ := jA.mk hjm
    clear hjm hrd hm c2
    by_cases c6 : (rd l0 ji3) = 0
    ·
     rw [if_pos c6, if_pos (by omega)] at H
     have c6b0 := beq_iff_eq.mpr c6
     have c6b1 := bne_eq_false_iff_eq.mpr c6
     clear c6
     obtain ⟨i010, hi010, _, hsz10, _⟩ := info_parts qI
     have hcut10 := jGQ (P := Try.prog) 35 22 .i64 Try.underlying35 hi010 (some ad103) m c0 ji3 p103 (by omega) (by have := HM.out; have := HC0.out; omega)
     have H' := jA.mk (show jQ.l0 k1 (l0.take ji3.toNat) = some r from by rw [List.take_take, Nat.min_eq_left (by omega)] at H; exact H)
     clear H hi010 hsz10 hmb
     replace p103 := eq_true p103
     replace q103 := eq_true q103
     go_wp2
     go_roundg k1
     case measure => omega
     case rel => exact ⟨ji3.toNat, rfl, by have := HJ.out; have := HM.out; omega, H', rfl⟩
    ·
     rw [if_neg c6] at H
     have c6b0 := beq_eq_false_iff_ne.mpr c6
     have c6b1 := bne_iff_ne.mpr c6
     have HE := jA.mk (Option.some.inj H)
     clear H hmb
     replace p103 := eq_true p103
     replace q103 := eq_true q103
     go_wp2
     go_ret
     refine ⟨?_, ?_, rfl⟩
     ·
      rw [← HE.out, HL.out]; rfl
     ·
      rw [← HE.out, HL.out]
   ·
    rw [if_neg c2] at H
    have c2b0 := decide_eq_false c2
    have c2b1 : decide (0 < m) = false := decide_eq_false (by omega)
    have HE := jA.mk (Option.some.inj H)
    clear c2 H hm
    go_wp2
    go_ret
    refine ⟨?_, ?_, rfl⟩
    ·
     rw [← HE.out, HL.out]; rfl
    ·
     rw [← HE.out, HL.out]
def jf.f (l0 : List Int) : Option (List Int) := if l0.length < 17592186044416 then some l0 else none
theorem jf.calls (A0 : Option Addr) (c0 : Nat) (l0 : List Int) (r : List Int) (w : World) (hr0 : Kd.C (Kd.int .u64) w A0 l0.length l0) (hc0 : l0.length ≤ c0) (h : jf.f l0 = some r) :
  Calls Try.prog 116 #[.slice A0 l0.length c0] w fun e w' => ∃ v0_ : Value, e = .returned (v0_) ∧ Kd.R (Kd.int .u64) 22 w' w.heap.size (fun _ => True) v0_ r ∧ Below w.heap.size w w' := by
 have HR0 := jA.mk hr0
 have HC0 := jA.mk hc0
 clear hr0 hc0
 unfold jf.f at h
 by_cases hl : l0.length < 17592186044416
 ·
  rw [if_pos hl] at h
  obtain rfl := Option.some.inj h
  clear h
  have HL := jA.mk hl
  clear hl
  have qq : ∀ (w : World) (a : Option Addr) (n c n' c' : Nat), (binOp .eql 35 (.slice a n c) (.slice none n' c')).run Try.prog w = .ok (.bool a.isNone) w := fun w a n c n' c' => Lib.run_eql_slice_nil w _ _ a n c n' c' Try.underlying35
  cases A0 with
  | none =>
   have hlen : l0 = [] := by
    by_cases hp : 0 < l0.length
    ·
     obtain ⟨ad, e, _⟩ := HR0.out.2.2 hp
     cases e
    ·
     exact List.eq_nil_of_length_eq_zero (by omega)
   subst hlen
   go_enter Try.func116, Try.ntmps116
   go_wp2
   go_ret
   exact ⟨_, rfl, Kd.jCs _ _ _ _ _, Below.refl _ _⟩
  | some ad =>
   have HO : jA (∀ W : World, Kd.R (Kd.int .u64) 22 (W.alloc (.cells #[] 22)) W.heap.size (fun _ => True) (.slice (some ⟨W.heap.size, 0, none⟩) 0 0) []) := ⟨fun W => Kd.jBV (World.ownsRow_made W #[] 0 (Nat.le_refl _) (Nat.zero_le _) rfl) (fun _ _ => trivial)⟩
   go_enter Try.func116, Try.ntmps116
   go_wp2_with ((with_reducible refine vW (b := .append) (xs := #[.tmp 5, .tmp 6]) rfl ?_); at_builtin; refine Kd.jAT (Kd.int .u64) (w0 := w) w.heap.size rfl (.tmp 5) (.tmp 6) 35 22 (.int .u64 0) 8 rfl Try.underlying35 qI rfl (by decide) (by omega) _ [] l0 _ _ _ (fun _ => True) (fun _ => False) rfl rfl ?aO ?aR (fun _ _ h => h) (fun _ h => h.elim) ?aF ?aB ?aS ?aL ?_)
   case aO => exact HO.out w
   case aR => exact Kd.zJ HR0.out _
   case aF => exact fun _ _ => trivial
   case aB => exact jk (Below.refl _ _) _
   case aS => simp
   case aL => have := HL.out; simp; omega
   intro v1 w1 ho hb hg hat
   clear hg hat
   have HO1 := jA.mk ho
   have HB := jA.mk hb
   clear ho hb
   go_wp2
   go_ret
   exact ⟨_, rfl, by simpa using HO1.out, HB.out⟩
 ·
  rw [if_neg hl] at h
  exact absurd h (by simp)
def vP.f (k : Nat) (l0 : List Int) : Option (List Int) := (jQ.f k l0).bind fun t119 => ((jf.f t119).bind fun t122 => (some t122))
theorem vP.mono : ∀ a0 k, LeO (vP.f k a0) (vP.f (k + 1) a0) := by
 intro a0 k
 unfold vP.f
 repeat' first
   | (with_reducible exact jQ.mono _ _)
   | (with_reducible exact LeO.refl _)
   | (with_reducible exact LeO.none _)
   | (with_reducible refine LeO.ite ?_ ?_)
   | (with_reducible refine LeO.bind ?_ (fun _ => ?_))
theorem vP.calls (k : Nat) (A0 : Option Addr) (c0 : Nat) (l0 : List Int) (r : List Int) (w : World) (hr0 : Kd.C (Kd.int .u64) w A0 l0.length l0) (hc0 : l0.length ≤ c0) (h : vP.f k l0 = some r) :
  Calls Try.prog 96 #[.slice A0 l0.length c0] w fun e w' => ∃ v0_ : Value, e = .returned (v0_) ∧ Kd.R (Kd.int .u64) 22 w' w.heap.size (fun _ => True) v0_ r ∧ Below w.heap.size w w' := by
 have HR0 := jA.mk hr0
 have HC0 := jA.mk hc0
 clear hr0 hc0
 have HB := jA.mk (Below.refl w.heap.size w)
 have H : ((jQ.f k l0).bind fun t119 => ((jf.f t119).bind fun t122 => (some t122))) = some r := h
 clear h
 obtain ⟨t119, A2, H⟩ := oc_ H
 try dsimp only at H
 replace H := ob_ H
 obtain ⟨t122, A30, H⟩ := H
 replace H : (some t122) = some r := H
 have A3 := jA.mk A30
 clear A30
 obtain rfl := Option.some.inj H
 go_enter Try.func96, Try.ntmps96
 go_wp2_with (first | ((with_reducible refine jH (f := 110) rfl ?_); refine gl_ (some 4) Try.func110 #[.slice A0 l0.length c0] ?_; (with_reducible refine (jQ.calls k (fun k_ => k_ < w.heap.size) _ _ l0 t119 _ ?side1 A2.out).mono ?_); (case side1 => exact Kd.V_mk HC0.out (Kd.zk (Kd.C_F (Kd.zH .u64) HR0.out) (bb_ HB))); rintro e w4 ⟨v120, rfl, ho0, hb⟩; refine ⟨_, rfl, ?_⟩; have HO121 := jA.mk (Kd.zh (Kd.vZ (ok' := fun k_ => True) ho0 (fun k_ hk_ => trivial)) (jC (bb_ HB))); replace HB := bs_ HB hb; obtain ⟨Ao5, co5, rfl⟩ := Kd.zR HO121.out) | ((with_reducible refine jH (f := 116) rfl ?_); refine gl_ (some 5) Try.func116 #[.slice Ao5 t119.length co5] ?_; (with_reducible refine (jf.calls _ _ t119 t122 _ ?side1 ?side2 A3.out).mono ?_); (case side1 => repeat (first | exact (Kd.vD HO121.out).2.2 | (with_reducible refine Kd.zJ ?_ _) | (with_reducible refine Kd.zU ?_ _) | (with_reducible refine Kd.zx ?_))); (case side2 => exact (Kd.vD HO121.out).2.1); rintro e w6 ⟨v123, rfl, ho0, hb⟩; refine ⟨_, rfl, ?_⟩; replace HO121 := jA.mk (Kd.qA (rV_ HO121) (Kd.vB ho0) hb); have HO124 := jA.mk (Kd.jN ho0 (jC (bb_ HB))); replace HB := bs_ HB hb))
 go_ret
 exact ⟨_, ew_, (rR_ HO124), (bb_ HB)⟩
def bits_Len64.f (a0 : Int) : Option Int := if 0 ≤ a0 ∧ a0 < B then some (Lib.bitLen a0.toNat) else none
theorem bits_Len64.calls (a0 : Int) (r : Int) (w : World) (h : bits_Len64.f a0 = some r) :
  Calls Try.prog 57 #[.int .u64 a0] w fun e w' => e = .returned (.int .i64 r) ∧ Below w.heap.size w w' := by
 unfold bits_Len64.f at h
 by_cases hc : 0 ≤ a0 ∧ a0 < B
 ·
  rw [if_pos hc] at h
  cases h
  exact (Go.Proofs.Ytijgeonhbmgikaa.Len64.calls_ a0 w hc.1 (by have := hc.2; rw [B_eq] at this; omega)).mono fun e w' ⟨he, hw⟩ => ⟨he, by rw [hw]; exact Below.refl _ _⟩
 ·
  rw [if_neg hc] at h; cases h
def bits_LeadingZeros64.f (a0 : Int) : Option (Int) := (bits_Len64.f a0).bind fun t125 => (some (wrap64 (64 - t125)))
theorem bits_LeadingZeros64.calls (a0 : Int) (r : Int) (w : World) (h : bits_LeadingZeros64.f a0 = some r) :
  Calls Try.prog 99 #[.int .u64 a0] w fun e w' => e = .returned (.int .i64 r) ∧ Below w.heap.size w w' := by
 have HB := jA.mk (Below.refl w.heap.size w)
 have H : ((bits_Len64.f a0).bind fun t125 => (some (wrap64 (64 - t125)))) = some r := h
 clear h
 obtain ⟨t125, A2, H⟩ := oc_ H
 try dsimp only at H
 obtain rfl := Option.some.inj H
 go_enter Try.func99, Try.ntmps99
 go_wp2_with (first | ((with_reducible refine jH (f := 57) rfl ?_); refine gl_ (some 4) Try.func57 #[.int .u64 a0] ?_; (with_reducible refine (bits_Len64.calls a0 t125 _ A2.out).mono ?_); rintro e w3 ⟨rfl, hb⟩; refine ⟨_, rfl, ?_⟩; replace HB := bs_ HB hb))
 go_ret
 exact ⟨ew_, (bb_ HB)⟩
end Go.Proofs.Ytijgeonhbmgikaa.PORatioField
