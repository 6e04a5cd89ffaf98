-- Written by a program of this session (pr.py, over the kit's print.py).
import Derived.Test.YtfoickaangjmnaaPOQuotCommonx0
import Derived.Test.YtfoickaangjmnaaPOQuotCommonx8
import Derived.Test.YtfoickaangjmnaaPOQuotCommonx9
import Derived.Test.YtfoickaangjmnaaPOQuotCommonx13
namespace Go.Proofs.Ytfoickaangjmnaa.POQuotCommon
open Go.RowKit Go.Proofs.YtfoickaangjmnaaN Go.Proofs.YtfoickaangjmnaaW.PrintWords Go.Proofs.YtfoickaangjmnaaW.PrintLast Go.Proofs.YtfoickaangjmnaaW.PrintMore
attribute [local go_sem] max2_int min2_int max_two min_two max_three min_three max_four min_four   -- for this text's walks alone
set_option linter.unusedVariables false
set_option linter.unusedSimpArgs false

/-! ### syzygylaw03_QuotCommon: function 11 -/
def syzygylaw03_QuotCommon.j0 : Nat → List Int → List Int → Bool → Option (Bool)
 | 0, _, _, _ => none
 | k + 1, x0, x1, x24 => if x24 = true then ((syzygylaw03_shown.f k).bind fun t499 => (some t499)) else ((quot_Gcd.f k x0 x1).bind fun bt500 => ((syzygyref03_Gcd.f k x0 x1).bind fun bt504 => ((quot_Lcm.f k x0 x1).bind fun bt508 => ((syzygyref03_Lcm.f k x0 x1).bind fun bt512 => ((syzygyref02_Same.f k bt500.1 bt504.1).bind fun t516 => (if t516 = true then (if bt500.2 = bt504.2 then ((syzygyref02_Same.f k bt508.1 bt512.1).bind fun t517 => (if t517 = true then (some (bt508.2 == bt512.2)) else (some false))) else (some false)) else (some false)))))))
def syzygylaw03_QuotCommon.f (k : Nat) (l0 : List Int) (l1 : List Int) : Option (Bool) := if (l0.length : Int) > 20 then (syzygylaw03_QuotCommon.j0 k l0 l1 true) else (if (l1.length : Int) > 20 then (syzygylaw03_QuotCommon.j0 k l0 l1 true) else ((syzygylaw03_shown.f k).bind fun t498 => (syzygylaw03_QuotCommon.j0 k l0 l1 (!t498))))
theorem syzygylaw03_QuotCommon.mono_l : ∀ k, (∀ y0 y1 y2, LeO (syzygylaw03_QuotCommon.j0 k y0 y1 y2) (syzygylaw03_QuotCommon.j0 (k + 1) y0 y1 y2))
 | 0 => fun _ _ _ r h => by simp [syzygylaw03_QuotCommon.j0] at h
 | k + 1 => by
  have ih0 := syzygylaw03_QuotCommon.mono_l k
  ·
   intro y0 y1 y2
   unfold syzygylaw03_QuotCommon.j0
   repeat' first
   | (with_reducible exact ih0 _ _ _)
   | (with_reducible exact quot_Gcd.mono _ _ _)
   | (with_reducible exact quot_Lcm.mono _ _ _)
   | (with_reducible exact syzygylaw03_shown.mono _)
   | (with_reducible exact syzygyref02_Same.mono _ _ _)
   | (with_reducible exact syzygyref03_Gcd.mono _ _ _)
   | (with_reducible exact syzygyref03_Lcm.mono _ _ _)
   | (with_reducible exact LeO.refl _)
   | (with_reducible exact LeO.none _)
   | (with_reducible refine LeO.ite ?_ ?_)
   | (with_reducible refine LeO.bind ?_ (fun _ => ?_))
theorem syzygylaw03_QuotCommon.mono : ∀ a0 a1 k, LeO (syzygylaw03_QuotCommon.f k a0 a1) (syzygylaw03_QuotCommon.f (k + 1) a0 a1) := by
 intro a0 a1 k
 have ih0 := syzygylaw03_QuotCommon.mono_l k
 unfold syzygylaw03_QuotCommon.f
 repeat' first
   | (with_reducible exact ih0 _ _ _)
   | (with_reducible exact quot_Gcd.mono _ _ _)
   | (with_reducible exact quot_Lcm.mono _ _ _)
   | (with_reducible exact syzygylaw03_shown.mono _)
   | (with_reducible exact syzygyref02_Same.mono _ _ _)
   | (with_reducible exact syzygyref03_Gcd.mono _ _ _)
   | (with_reducible exact syzygyref03_Lcm.mono _ _ _)
   | (with_reducible exact LeO.refl _)
   | (with_reducible exact LeO.none _)
   | (with_reducible refine LeO.ite ?_ ?_)
   | (with_reducible refine LeO.bind ?_ (fun _ => ?_))
set_option maxHeartbeats 8000000 in
set_option maxRecDepth 100000 in
theorem syzygylaw03_QuotCommon.calls (k : Nat) (A0 : Option Addr) (c0 : Nat) (l0 : List Int) (A1 : Option Addr) (c1 : Nat) (l1 : List Int) (w : World) (hr0 : Kd.C (Kd.int .u64) w A0 l0.length l0) (hc0 : l0.length ≤ c0) (hr1 : Kd.C (Kd.int .u64) w A1 l1.length l1) (hc1 : l1.length ≤ c1) (h : syzygylaw03_QuotCommon.f k l0 l1 = some true) :
  Calls Try.prog 11 #[.slice A0 l0.length c0, .slice A1 l1.length c1] w fun e w' => e = .returned (.bool true) ∧ Below w.heap.size w w' := by
 have HR0 := Aside0.mk hr0
 have HC0 := Aside0.mk hc0
 clear hr0 hc0
 have HR1 := Aside0.mk hr1
 have HC1 := Aside0.mk hc1
 clear hr1 hc1
 have HB := Aside0.mk (Below.refl w.heap.size w)
 have H : (if (l0.length : Int) > 20 then (syzygylaw03_QuotCommon.j0 k l0 l1 true) else (if (l1.length : Int) > 20 then (syzygylaw03_QuotCommon.j0 k l0 l1 true) else ((syzygylaw03_shown.f k).bind fun t498 => (syzygylaw03_QuotCommon.j0 k l0 l1 (!t498))))) = some true := h
 clear h
 have HC3 := Aside0.mk H
 clear H
 go_enter Try.func11, Try.ntmps11
 go_upto_region 1 with (fail)
 go_cut [24] (fun v24 wc => ∃ (kq : Nat) (x24_2 : Bool), v24 = .bool x24_2 ∧ Aside0 (syzygylaw03_QuotCommon.j0 kq l0 l1 x24_2 = some true) ∧ Aside0 (kq ≤ k) ∧ Aside0 (Below w.heap.size w wc))
 case first =>
  have H := HC3.out
  clear HC3
  by_cases c4 : (l0.length : Int) > 20
  ·
   rw [if_pos c4] at H
   have c4b0 : decide (20 < (l0.length : Int)) = true := decide_eq_true c4
   have c4b1 : decide (20 < l0.length) = true := decide_eq_true (by omega)
   clear c4
   (first | rw [c4b0] | (simp only [i64_w, i32_w]; rw [c4b0]) | skip)
   have H' := Aside0.mk H
   clear H
   go_wp2
   go_meet
   case rel => exact ⟨_, (true), sd_, H', ⟨by first | omega | exact Nat.le_refl _⟩, ⟨by repeat (first | (with_reducible first | exact HB.out | apply below_alloc | apply pw_below_drewN | apply below_drew1) | exact HB.out)⟩⟩
  ·
   rw [if_neg c4] at H
   have c4b0 : decide (20 < (l0.length : Int)) = false := decide_eq_false c4
   have c4b1 : decide (20 < l0.length) = false := decide_eq_false (by omega)
   clear c4
   (first | rw [c4b0] | (simp only [i64_w, i32_w]; rw [c4b0]) | skip)
   by_cases c5 : (l1.length : Int) > 20
   ·
    rw [if_pos c5] at H
    have c5b0 : decide (20 < (l1.length : Int)) = true := decide_eq_true c5
    have c5b1 : decide (20 < l1.length) = true := decide_eq_true (by omega)
    clear c5
    have H' := Aside0.mk H
    clear H
    go_wp2
    go_meet
    case rel => exact ⟨_, (true), sd_, H', ⟨by first | omega | exact Nat.le_refl _⟩, ⟨by repeat (first | (with_reducible first | exact HB.out | apply below_alloc | apply pw_below_drewN | apply below_drew1) | exact HB.out)⟩⟩
   ·
    rw [if_neg c5] at H
    have c5b0 : decide (20 < (l1.length : Int)) = false := decide_eq_false c5
    have c5b1 : decide (20 < l1.length) = false := decide_eq_false (by omega)
    clear c5
    replace H := Option.bind_eq_some_iff.mp H
    obtain ⟨t498, A60, H⟩ := H
    replace H : (syzygylaw03_QuotCommon.j0 k l0 l1 (!t498)) = some true := H
    have A6 := Aside0.mk A60
    clear A60
    have H' := Aside0.mk H
    clear H
    go_wp2_with (first | ((with_reducible refine gate_dst (N := 22) rfl ?_); (try (refine gate_guard (by rfl) ?_; dsimp only)); refine gate_guard (by first | rfl | kernel_rfl) ?_; dsimp only; (with_reducible refine gate_callee (f := 28) rfl ?_); refine goesL_ (some 22) rfl rfl Try.func28 (by kernel_rfl) rfl #[] rfl mt_ ?_; (with_reducible refine (syzygylaw03_shown.calls k  t498 _ A6.out).mono ?_); rintro e w7 ⟨rfl, hb⟩; refine ⟨_, rfl, ?_⟩; have n0_ := Aside0.mk (below_step (bb_ HB) hb); clear HB; have HB := n0_; clear n0_; (try clear hb); (try clear hb2); (try clear hk); (try clear hi)))
    go_meet
    case rel => exact ⟨_, (!t498), sd_, H', ⟨by first | omega | exact Nat.le_refl _⟩, ⟨by repeat (first | (with_reducible first | exact HB.out | apply below_alloc | apply pw_below_drewN | apply below_drew1) | exact HB.out)⟩⟩
 case rest =>
  clear HC3
  try clear c1
  try clear c2
  try clear p2
  try clear c4
  try clear c4b0
  try clear c4b1
  try clear c5
  try clear c5b0
  try clear c5b1
  obtain ⟨kq, x24_2, rfl, HA, HJ2, HB⟩ := hcut
  cases kq with
  | zero => exact absurd HA.out (by simp [syzygylaw03_QuotCommon.j0])
  | succ kj2 =>
   have H := HA.out
   clear HA
   simp only [syzygylaw03_QuotCommon.j0] at H
   by_cases c8 : x24_2 = true
   ·
    subst c8
    have H1 : ((syzygylaw03_shown.f kj2).bind fun t499 => (some t499)) = some true := by rw [if_pos rfl] at H; exact H
    clear H
    have H := H1
    clear H1
    replace H := Option.bind_eq_some_iff.mp H
    obtain ⟨t499, A90, H⟩ := H
    replace H : (some t499) = some true := H
    have A9 := Aside0.mk A90
    clear A90
    have HRT_ := Aside0.mk (Option.some.inj H)
    clear H
    go_wp2_with (first | ((with_reducible refine gate_callee (f := 28) rfl ?_); refine goesL_ (some 25) rfl rfl Try.func28 (by kernel_rfl) rfl #[] rfl mt_ ?_; (with_reducible refine (syzygylaw03_shown.calls kj2  t499 _ A9.out).mono ?_); rintro e w10 ⟨rfl, hb⟩; refine ⟨_, rfl, ?_⟩; have n0_ := Aside0.mk (below_step (bb_ HB) hb); clear HB; have HB := n0_; clear n0_; (try clear hb); (try clear hb2); (try clear hk); (try clear hi)))
    go_ret
    exact ⟨by first | rfl | (rw [HRT_.out]; rfl) | (simp only [HRT_.out]; done) | exact of_decide_eq_true HRT_.out | (have h_ := HRT_.out; simp at h_ ⊢; exact h_) | (have h_ := HRT_.out; simp at h_ ⊢; omega) | (have h_ := HRT_.out; simp [h_]; done) | (simp [errW_none, errW_some] <;> rfl) | (simp [*, errW_none, errW_some] <;> rfl), by repeat (first | (with_reducible first | exact HB.out | apply below_alloc | apply pw_below_drewN | apply below_drew1) | exact HB.out)⟩
   ·
    replace c8 := Bool.eq_false_iff.mpr c8
    subst c8
    have H1 : ((quot_Gcd.f kj2 l0 l1).bind fun bt500 => ((syzygyref03_Gcd.f kj2 l0 l1).bind fun bt504 => ((quot_Lcm.f kj2 l0 l1).bind fun bt508 => ((syzygyref03_Lcm.f kj2 l0 l1).bind fun bt512 => ((syzygyref02_Same.f kj2 bt500.1 bt504.1).bind fun t516 => (if t516 = true then (if bt500.2 = bt504.2 then ((syzygyref02_Same.f kj2 bt508.1 bt512.1).bind fun t517 => (if t517 = true then (some (bt508.2 == bt512.2)) else (some false))) else (some false)) else (some false))))))) = some true := by rw [if_neg (show ¬ (false = true) by decide)] at H; exact H
    clear H
    have H := H1
    clear H1
    replace H := Option.bind_eq_some_iff.mp H
    obtain ⟨⟨t500, t501⟩, A110, H⟩ := H
    replace H : ((syzygyref03_Gcd.f kj2 l0 l1).bind fun bt504 => ((quot_Lcm.f kj2 l0 l1).bind fun bt508 => ((syzygyref03_Lcm.f kj2 l0 l1).bind fun bt512 => ((syzygyref02_Same.f kj2 t500 bt504.1).bind fun t516 => (if t516 = true then (if t501 = bt504.2 then ((syzygyref02_Same.f kj2 bt508.1 bt512.1).bind fun t517 => (if t517 = true then (some (bt508.2 == bt512.2)) else (some false))) else (some false)) else (some false)))))) = some true := H
    have A11 := Aside0.mk A110
    clear A110
    replace H := Option.bind_eq_some_iff.mp H
    obtain ⟨⟨t504, t507⟩, A120, H⟩ := H
    replace H : ((quot_Lcm.f kj2 l0 l1).bind fun bt508 => ((syzygyref03_Lcm.f kj2 l0 l1).bind fun bt512 => ((syzygyref02_Same.f kj2 t500 t504).bind fun t516 => (if t516 = true then (if t501 = t507 then ((syzygyref02_Same.f kj2 bt508.1 bt512.1).bind fun t517 => (if t517 = true then (some (bt508.2 == bt512.2)) else (some false))) else (some false)) else (some false))))) = some true := H
    have A12 := Aside0.mk A120
    clear A120
    replace H := Option.bind_eq_some_iff.mp H
    obtain ⟨⟨t508, t509⟩, A130, H⟩ := H
    replace H : ((syzygyref03_Lcm.f kj2 l0 l1).bind fun bt512 => ((syzygyref02_Same.f kj2 t500 t504).bind fun t516 => (if t516 = true then (if t501 = t507 then ((syzygyref02_Same.f kj2 t508 bt512.1).bind fun t517 => (if t517 = true then (some (t509 == bt512.2)) else (some false))) else (some false)) else (some false)))) = some true := H
    have A13 := Aside0.mk A130
    clear A130
    replace H := Option.bind_eq_some_iff.mp H
    obtain ⟨⟨t512, t513⟩, A140, H⟩ := H
    replace H : ((syzygyref02_Same.f kj2 t500 t504).bind fun t516 => (if t516 = true then (if t501 = t507 then ((syzygyref02_Same.f kj2 t508 t512).bind fun t517 => (if t517 = true then (some (t509 == t513)) else (some false))) else (some false)) else (some false))) = some true := H
    have A14 := Aside0.mk A140
    clear A140
    replace H := Option.bind_eq_some_iff.mp H
    obtain ⟨t516, A150, H⟩ := H
    replace H : (if t516 = true then (if t501 = t507 then ((syzygyref02_Same.f kj2 t508 t512).bind fun t517 => (if t517 = true then (some (t509 == t513)) else (some false))) else (some false)) else (some false)) = some true := H
    have A15 := Aside0.mk A150
    clear A150
    by_cases c16 : t516 = true
    ·
     subst c16
     have H1 : (if t501 = t507 then ((syzygyref02_Same.f kj2 t508 t512).bind fun t517 => (if t517 = true then (some (t509 == t513)) else (some false))) else (some false)) = some true := by rw [if_pos rfl] at H; exact H
     clear H
     have H := H1
     clear H1
     by_cases c17 : t501 = t507
     ·
      rw [if_pos c17] at H
      have c17b0 : (t501 == t507) = true := beq_iff_eq.mpr c17
      have c17b1 : (t501 != t507) = false := bne_eq_false_iff_eq.mpr c17
      clear c17
      replace H := Option.bind_eq_some_iff.mp H
      obtain ⟨t517, A180, H⟩ := H
      replace H : (if t517 = true then (some (t509 == t513)) else (some false)) = some true := H
      have A18 := Aside0.mk A180
      clear A180
      by_cases c19 : t517 = true
      ·
       subst c19
       have H1 : (some (t509 == t513)) = some true := by rw [if_pos rfl] at H; exact H
       clear H
       have H := H1
       clear H1
       have HRT_ := Aside0.mk (Option.some.inj H)
       clear H
       go_wp2_with (first | ((with_reducible refine gate_callee (f := 38) rfl ?_); refine goesL_ (some 29) rfl rfl Try.func38 (by kernel_rfl) rfl #[.slice A0 l0.length c0, .slice A1 l1.length c1] rfl mt_ ?_; (with_reducible refine (quot_Gcd.calls kj2 _ _ l0 _ _ l1 t500 t501 _ ?side1 ?side2 ?side3 ?side4 A11.out).mono ?_); (case side1 => exact cc_ (Kd.C_below HR0.out HB.out)); (case side2 => exact HC0.out); (case side3 => exact cc_ (Kd.C_below HR1.out HB.out)); (case side4 => exact HC1.out); rintro e w20 ⟨v502, rfl, ho0, hb⟩; refine ⟨_, rfl, ?_⟩; have n0_ := Aside0.mk (Kd.R_lower ho0 (below_size (bb_ HB))); have n1_ := Aside0.mk (below_step (bb_ HB) hb); clear HB; have HO503 := n0_; have HB := n1_; clear n0_ n1_; (try clear hb); (try clear hb2); (try clear hk); (try clear hi); (try clear ho0)) | ((with_reducible refine gate_callee (f := 39) rfl ?_); refine goesL_ (some 35) rfl rfl Try.func39 (by kernel_rfl) rfl #[.slice A0 l0.length c0, .slice A1 l1.length c1] rfl mt_ ?_; (with_reducible refine (syzygyref03_Gcd.calls kj2 (fun k_ => k_ < w.heap.size) _ _ l0 (fun k_ => k_ < w.heap.size) _ _ l1 t504 t507 _ ?side1 ?side2 A12.out).mono ?_); (case side1 => exact Kd.V_mk HC0.out (Kd.F_below (Kd.C_F (Kd.heap_int .u64) HR0.out) (bb_ HB))); (case side2 => exact Kd.V_mk HC1.out (Kd.F_below (Kd.C_F (Kd.heap_int .u64) HR1.out) (bb_ HB))); rintro e w21 ⟨v505, rfl, ho0, hb⟩; refine ⟨_, rfl, ?_⟩; have n0_ := Aside0.mk (Kd.R_below (rR_ HO503) hb); have n1_ := Aside0.mk (Kd.V_lower (Kd.V_mono (ok' := fun k_ => some k_ ≠ (v502 : Value).ownBlock) ho0 (fun k_ hk_ => Or.elim hk_ (fun hs_ => Or.elim hs_ (fun hs_ => fun e_ => Nat.not_le.2 hs_ (Kd.R_base HO503.out k_ e_.symm)) (fun hs_ => fun e_ => Nat.not_le.2 hs_ (Kd.R_base HO503.out k_ e_.symm))) (fun hn_ => (Kd.fresh' (Kd.R_lt (rR_ HO503)) k_ hn_)))) (below_size (bb_ HB))); have n2_ := Aside0.mk (below_step (bb_ HB) hb); clear HO503; clear HB; have HO503 := n0_; have HO506 := n1_; have HB := n2_; clear n0_ n1_ n2_; (try clear hb); (try clear hb2); (try clear hk); (try clear hi); (try clear ho0)) | ((with_reducible refine gate_callee (f := 40) rfl ?_); refine goesL_ (some 41) rfl rfl Try.func40 (by kernel_rfl) rfl #[.slice A0 l0.length c0, .slice A1 l1.length c1] rfl mt_ ?_; (with_reducible refine (quot_Lcm.calls kj2 _ _ l0 _ _ l1 t508 t509 _ ?side1 ?side2 ?side3 ?side4 A13.out).mono ?_); (case side1 => exact cc_ (Kd.C_below HR0.out HB.out)); (case side2 => exact HC0.out); (case side3 => exact cc_ (Kd.C_below HR1.out HB.out)); (case side4 => exact HC1.out); rintro e w22 ⟨v510, rfl, ho0, hb⟩; refine ⟨_, rfl, ?_⟩; have n0_ := Aside0.mk (Kd.R_elder' (rR_ HO503) (Kd.R_base ho0) hb); have n1_ := Aside0.mk (Kd.V_elder' (rV_ HO506) (Kd.R_base ho0) hb); have n2_ := Aside0.mk (Kd.R_lower (Kd.R_new' ho0 (Kd.R_lt (rR_ HO503))) (below_size (bb_ HB))); have n3_ := Aside0.mk (below_step (bb_ HB) hb); clear HO503; clear HO506; clear HB; have HO503 := n0_; have HO506 := n1_; have HO511 := n2_; have HB := n3_; clear n0_ n1_ n2_ n3_; (try clear hb); (try clear hb2); (try clear hk); (try clear hi); (try clear ho0)) | ((with_reducible refine gate_callee (f := 41) rfl ?_); refine goesL_ (some 47) rfl rfl Try.func41 (by kernel_rfl) rfl #[.slice A0 l0.length c0, .slice A1 l1.length c1] rfl mt_ ?_; (with_reducible refine (syzygyref03_Lcm.calls kj2 _ _ l0 _ _ l1 t512 t513 _ ?side1 ?side2 ?side3 ?side4 A14.out).mono ?_); (case side1 => exact cc_ (Kd.C_below HR0.out HB.out)); (case side2 => exact HC0.out); (case side3 => exact cc_ (Kd.C_below HR1.out HB.out)); (case side4 => exact HC1.out); rintro e w23 ⟨v514, rfl, ho0, hb⟩; refine ⟨_, rfl, ?_⟩; have n0_ := Aside0.mk (Kd.R_elder' (rR_ HO503) (Kd.R_base ho0) hb); have n1_ := Aside0.mk (Kd.V_elder' (rV_ HO506) (Kd.R_base ho0) hb); have n2_ := Aside0.mk (Kd.R_elder' (rR_ HO511) (Kd.R_base ho0) hb); have n3_ := Aside0.mk (Kd.R_lower (Kd.R_new' (Kd.R_new' ho0 (Kd.R_lt (rR_ HO503))) (Kd.R_lt (rR_ HO511))) (below_size (bb_ HB))); have n4_ := Aside0.mk (below_step (bb_ HB) hb); clear HO503; clear HO506; clear HO511; clear HB; have HO503 := n0_; have HO506 := n1_; have HO511 := n2_; have HO515 := n3_; have HB := n4_; clear n0_ n1_ n2_ n3_ n4_; (try clear hb); (try clear hb2); (try clear hk); (try clear hi); (try clear ho0); obtain ⟨Ao24, co24, eo24⟩ := Kd.R_slice HO503.out; subst eo24; obtain ⟨Ao25, co25, eo25⟩ := Kd.V_slice HO506.out; subst eo25) | ((with_reducible refine gate_callee (f := 33) rfl ?_); refine goesL_ (some 52) rfl rfl Try.func33 (by kernel_rfl) rfl #[.slice Ao24 t500.length co24, .slice Ao25 t504.length co25] rfl mt_ ?_; (with_reducible refine (syzygyref02_Same.calls kj2 _ _ t500 _ _ t504 true _ ?side1 ?side2 ?side3 ?side4 A15.out).mono ?_); (case side1 => exact cc_ (Kd.R_reads' HO503.out).2.2); (case side2 => exact (Kd.R_reads' HO503.out).2.1); (case side3 => repeat (first | exact (Kd.V_reads' HO506.out).2.2 | (with_reducible refine Kd.C_alloc ?_ _) | (with_reducible refine Kd.C_drewN ?_ _) | (with_reducible refine Kd.C_drew ?_))); (case side4 => exact (Kd.V_reads' HO506.out).2.1); rintro e w' ⟨rfl, ⟨nd, rfl⟩⟩; refine ⟨_, rfl, ?_⟩; obtain ⟨Ao26, co26, eo26⟩ := Kd.R_slice HO511.out; subst eo26; obtain ⟨Ao27, co27, eo27⟩ := Kd.R_slice HO515.out; subst eo27) | ((with_reducible refine gate_dst (N := 61) rfl ?_); (try (refine gate_guard (by rfl) ?_; dsimp only)); refine gate_guard (by first | rfl | kernel_rfl) ?_; dsimp only; (with_reducible refine gate_callee (f := 33) rfl ?_); refine goesL_ (some 61) rfl rfl Try.func33 (by kernel_rfl) rfl #[.slice Ao26 t508.length co26, .slice Ao27 t512.length co27] rfl mt_ ?_; (with_reducible refine (syzygyref02_Same.calls kj2 _ _ t508 _ _ t512 true _ ?side1 ?side2 ?side3 ?side4 A18.out).mono ?_); (case side1 => exact cc_ (Kd.R_reads' HO511.out).2.2); (case side2 => exact (Kd.R_reads' HO511.out).2.1); (case side3 => exact cc_ (Kd.R_reads' HO515.out).2.2); (case side4 => exact (Kd.R_reads' HO515.out).2.1); rintro e w' ⟨rfl, ⟨nd, rfl⟩⟩; refine ⟨_, rfl, ?_⟩))
       go_ret
       exact ⟨by first | rfl | (rw [HRT_.out]; rfl) | (simp only [HRT_.out]; done) | exact of_decide_eq_true HRT_.out | (have h_ := HRT_.out; simp at h_ ⊢; exact h_) | (have h_ := HRT_.out; simp at h_ ⊢; omega) | (have h_ := HRT_.out; simp [h_]; done) | (simp [errW_none, errW_some] <;> rfl) | (simp [*, errW_none, errW_some] <;> rfl), by repeat (first | (with_reducible first | exact HB.out | apply below_alloc | apply pw_below_drewN | apply below_drew1) | exact HB.out)⟩
      ·
       replace c19 := Bool.eq_false_iff.mpr c19
       subst c19
       have H1 : (some false) = some true := by rw [if_neg (show ¬ (false = true) by decide)] at H; exact H
       clear H
       have H := H1
       clear H1
       exact absurd H (by simp)
     ·
      rw [if_neg c17] at H
      have c17b0 : (t501 == t507) = false := beq_eq_false_iff_ne.mpr c17
      have c17b1 : (t501 != t507) = true := bne_iff_ne.mpr c17
      exact absurd H (by simp)
    ·
     replace c16 := Bool.eq_false_iff.mpr c16
     subst c16
     have H1 : (some false) = some true := by rw [if_neg (show ¬ (false = true) by decide)] at H; exact H
     clear H
     have H := H1
     clear H1
     exact absurd H (by simp)

/-- THE ONE PURE STATEMENT of syzygylaw03_QuotCommon: yours. -/
def syzygylaw03_QuotCommon.Pure : Prop := ∀ (l0 : List Int) (l1 : List Int), l0.length ≤ maxLen → l0.length * 8 ≤ 140737488351232 → (∀ x ∈ l0, (Lit.int .u64 x).wf = true) → l1.length ≤ maxLen → l1.length * 8 ≤ 140737488351232 → (∀ x ∈ l1, (Lit.int .u64 x).wf = true) → ∃ k, syzygylaw03_QuotCommon.f k l0 l1 = some true
theorem syzygylaw03_QuotCommon.walk (P : syzygylaw03_QuotCommon.Pure) (a0 : Option Addr) (len0 cap0 : Nat) (z0 : List Int) (a1 : Option Addr) (len1 cap1 : Nat) (z1 : List Int) (w : World) (w0 : (a0 = none ∧ len0 = 0 ∧ cap0 = 0 ∧ z0 = []) ∨ ∃ x, a0 = some x ∧ len0 ≤ cap0 ∧ cap0 ≤ maxLen ∧ z0.length = cap0 ∧ (∀ i, i < z0.length → w.cell? (x.add i) = some (.int .u64 (z0.getD i 0))) ∧ ∀ n ∈ z0, (Lit.int .u64 n).wf = true) (y0 : len0 * 8 ≤ 140737488351232) (w1 : (a1 = none ∧ len1 = 0 ∧ cap1 = 0 ∧ z1 = []) ∨ ∃ x, a1 = some x ∧ len1 ≤ cap1 ∧ cap1 ≤ maxLen ∧ z1.length = cap1 ∧ (∀ i, i < z1.length → w.cell? (x.add i) = some (.int .u64 (z1.getD i 0))) ∧ ∀ n ∈ z1, (Lit.int .u64 n).wf = true) (y1 : len1 * 8 ≤ 140737488351232) :
  Calls Try.prog 11 #[.slice a0 len0 cap0, .slice a1 len1 cap1] w fun e w' => e = .returned (.bool true) ∧ Below w.heap.size w w' := by
 obtain ⟨l0, rfl, hr0, hm0, hw0, hc0⟩ := ReadsInt.ofRowC w0
 obtain ⟨l1, rfl, hr1, hm1, hw1, hc1⟩ := ReadsInt.ofRowC w1
 obtain ⟨k, h⟩ := P l0 l1 hm0 y0 hw0 hm1 y1 hw1
 refine (syzygylaw03_QuotCommon.calls k _ _ l0 _ _ l1 w (Kd.C_of_reads (d := (0 : Int)) (h1 := fun _ => rfl) hr0) hc0 (Kd.C_of_reads (d := (0 : Int)) (h1 := fun _ => rfl) hr1) hc1 h).mono ?_
 rintro e w' ⟨rfl, hd⟩
 exact ⟨rfl, hd⟩

end Go.Proofs.Ytfoickaangjmnaa.POQuotCommon
