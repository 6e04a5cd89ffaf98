-- Written by a program of this session (pr.py, over the kit's print.py).
import Derived.Test.YtfoickaangjmnaaPOQuotCommonx0
import Derived.Test.YtfoickaangjmnaaPOQuotCommonx1
import Derived.Test.YtfoickaangjmnaaPOQuotCommonx2
import Derived.Test.YtfoickaangjmnaaPOQuotCommonx3
import Derived.Test.YtfoickaangjmnaaPOQuotCommonx4
import Derived.Test.YtfoickaangjmnaaPOQuotCommonx7
namespace Go.Proofs.Ytfoickaangjmnaa.POQuotCommon
open Go.RowKit Go.Proofs.YtfoickaangjmnaaN Go.Proofs.YtfoickaangjmnaaW.PrintWords Go.Proofs.YtfoickaangjmnaaW.PrintLast Go.Proofs.YtfoickaangjmnaaW.PrintMore
attribute [local go_sem] max2_int min2_int max_two min_two max_three min_three max_four min_four   -- for this text's walks alone
set_option linter.unusedVariables false
set_option linter.unusedSimpArgs false

/-! ### quot_Div: function 29 -/
mutual
def quot_Div.j0 : Nat → List Int → List Int → Bool → Option (List Int × List Int × Int)
 | 0, _, _, _ => none
 | k + 1, x0, x1, x15 => if x15 = true then (some (([] : List Int), ([] : List Int), 1)) else (if (x1.length : Int) = 0 then (some (([] : List Int), ([] : List Int), 30)) else (if (x1.length : Int) = 1 then (if 0 < (x1.length : Int) then ((quot_Small.f k x0 (rd x1 0)).bind fun bt199 => ((nat_Of.f bt199.2.1).bind fun t204 => (some (bt199.1, t204, 0)))) else (none)) else ((limb_Cmp.f k x0 x1).bind fun t207 => (if t207 < 0 then ((limb_Trim.f k x0).bind fun t208 => (some (([] : List Int), t208, 0))) else (if 0 ≤ (wrap64 ((x1.length : Int) - 1)) then (if (wrap64 ((x1.length : Int) - 1)) < (x1.length : Int) then ((bits_LeadingZeros64.f (rd x1 (wrap64 ((x1.length : Int) - 1)))).bind fun t212 => ((limb_Shift.f k x0 t212).bind fun t213 => ((some (([0, 0] : List Int) : List Int)).bind fun y216 => (if t213.length + y216.length < 17592186044416 then ((some (t213 ++ y216 : List Int)).bind fun y219 => ((limb_Shift.f k x1 t212).bind fun t222 => (if 0 ≤ (wrap64 ((y219.length : Int) - (t222.length : Int))) then (if (wrap64 ((y219.length : Int) - (t222.length : Int)) : Int).toNat ≤ 35184372088832 then ((some (List.replicate (wrap64 ((y219.length : Int) - (t222.length : Int)) : Int).toNat 0 : List Int)).bind fun y225 => (quot_Div.l0 k t212 y219 t222 y225 (wrap64 ((y225.length : Int) - 1)))) else (none)) else (none)))) else (none))))) else (none)) else (none))))))
def quot_Div.l0 : Nat → Int → List Int → List Int → List Int → Int → Option (List Int × List Int × Int)
 | 0, _, _, _, _, _ => none
 | k + 1, x10, x11, x12, x13, x14 => if x14 ≥ 0 then (if 0 ≤ x14 then (if x14 ≤ (mn (wrap64 ((wrap64 (x14 + (x12.length : Int))) + 1)) (x11.length : Int)) then (if (mn (wrap64 ((wrap64 (x14 + (x12.length : Int))) + 1)) (x11.length : Int)) ≤ (x11.length : Int) then ((quot_digit.f k ((x11.take ((mn (wrap64 ((wrap64 (x14 + (x12.length : Int))) + 1)) (x11.length : Int)) : Int).toNat).drop (x14 : Int).toNat) x12).bind fun t232 => (if x14 < (x13.length : Int) then (quot_Div.l0 k x10 (Go.splice x11 (x14 : Int).toNat t232.2) x12 (x13.set (x14 : Int).toNat t232.1) (wrap64 (x14 - 1))) else (none))) else (none)) else (none)) else (none)) else ((limb_Trim.f k x13).bind fun t234 => ((limb_Shift.f k x11 (wrap64 (-x10))).bind fun t237 => (some (t234, t237, 0))))
end
def quot_Div.f (k : Nat) (l0 : List Int) (l1 : List Int) : Option (List Int × List Int × Int) := (nat_May.f l0).bind fun t196 => (if t196 = true then ((nat_May.f l1).bind fun t197 => (quot_Div.j0 k l0 l1 (!t197))) else (quot_Div.j0 k l0 l1 true))
theorem quot_Div.mono_l : ∀ k, (∀ y0 y1 y2, LeO (quot_Div.j0 k y0 y1 y2) (quot_Div.j0 (k + 1) y0 y1 y2)) ∧ (∀ y0 y1 y2 y3 y4, LeO (quot_Div.l0 k y0 y1 y2 y3 y4) (quot_Div.l0 (k + 1) y0 y1 y2 y3 y4))
 | 0 => ⟨fun _ _ _ r h => by simp [quot_Div.j0] at h, fun _ _ _ _ _ r h => by simp [quot_Div.l0] at h⟩
 | k + 1 => by
  obtain ⟨ih0, ih1⟩ := quot_Div.mono_l k
  refine ⟨?_, ?_⟩
  ·
   intro y0 y1 y2
   unfold quot_Div.j0
   repeat' first
   | (with_reducible exact ih0 _ _ _)
   | (with_reducible exact ih1 _ _ _ _ _)
   | (with_reducible exact limb_Cmp.mono _ _ _)
   | (with_reducible exact limb_Shift.mono _ _ _)
   | (with_reducible exact limb_Trim.mono _ _)
   | (with_reducible exact quot_Small.mono _ _ _)
   | (with_reducible exact quot_digit.mono _ _ _)
   | (with_reducible exact LeO.refl _)
   | (with_reducible exact LeO.none _)
   | (with_reducible refine LeO.ite ?_ ?_)
   | (with_reducible refine LeO.bind ?_ (fun _ => ?_))
  ·
   intro y0 y1 y2 y3 y4
   unfold quot_Div.l0
   repeat' first
   | (with_reducible exact ih0 _ _ _)
   | (with_reducible exact ih1 _ _ _ _ _)
   | (with_reducible exact limb_Cmp.mono _ _ _)
   | (with_reducible exact limb_Shift.mono _ _ _)
   | (with_reducible exact limb_Trim.mono _ _)
   | (with_reducible exact quot_Small.mono _ _ _)
   | (with_reducible exact quot_digit.mono _ _ _)
   | (with_reducible exact LeO.refl _)
   | (with_reducible exact LeO.none _)
   | (with_reducible refine LeO.ite ?_ ?_)
   | (with_reducible refine LeO.bind ?_ (fun _ => ?_))
theorem quot_Div.mono : ∀ a0 a1 k, LeO (quot_Div.f k a0 a1) (quot_Div.f (k + 1) a0 a1) := by
 intro a0 a1 k
 obtain ⟨ih0, ih1⟩ := quot_Div.mono_l k
 unfold quot_Div.f
 repeat' first
   | (with_reducible exact ih0 _ _ _)
   | (with_reducible exact ih1 _ _ _ _ _)
   | (with_reducible exact limb_Cmp.mono _ _ _)
   | (with_reducible exact limb_Shift.mono _ _ _)
   | (with_reducible exact limb_Trim.mono _ _)
   | (with_reducible exact quot_Small.mono _ _ _)
   | (with_reducible exact quot_digit.mono _ _ _)
   | (with_reducible exact LeO.refl _)
   | (with_reducible exact LeO.none _)
   | (with_reducible refine LeO.ite ?_ ?_)
   | (with_reducible refine LeO.bind ?_ (fun _ => ?_))
set_option maxHeartbeats 8000000 in
set_option maxRecDepth 100000 in
theorem quot_Div.calls (k : Nat) (A0 : Option Addr) (c0 : Nat) (l0 : List Int) (A1 : Option Addr) (c1 : Nat) (l1 : List Int) (r1 : List Int) (r2 : List Int) (r3 : Int) (w : World) (hr0 : Kd.C (Kd.int .u64) w A0 l0.length l0) (hc0 : l0.length ≤ c0) (hr1 : Kd.C (Kd.int .u64) w A1 l1.length l1) (hc1 : l1.length ≤ c1) (h : quot_Div.f k l0 l1 = some (r1, r2, r3)) :
  Calls Try.prog 29 #[.slice A0 l0.length c0, .slice A1 l1.length c1] w fun e w' => ∃ v0_ v1_ : Value, e = .returned (.tuple #[v0_, v1_, .int .i64 r3]) ∧ Kd.R (Kd.int .u64) 50 w' w.heap.size (fun k_ => some k_ ≠ (v1_ : Value).ownBlock) v0_ r1 ∧ Kd.R (Kd.int .u64) 50 w' w.heap.size (fun k_ => some k_ ≠ (v0_ : Value).ownBlock) v1_ r2 ∧ Below w.heap.size w w' := by
 have HR0 := Aside0.mk hr0
 have HC0 := Aside0.mk hc0
 clear hr0 hc0
 have HR1 := Aside0.mk hr1
 have HC1 := Aside0.mk hc1
 clear hr1 hc1
 have HB := Aside0.mk (Below.refl w.heap.size w)
 have H : ((nat_May.f l0).bind fun t196 => (if t196 = true then ((nat_May.f l1).bind fun t197 => (quot_Div.j0 k l0 l1 (!t197))) else (quot_Div.j0 k l0 l1 true))) = some (r1, r2, r3) := h
 clear h
 have HC3 := Aside0.mk H
 clear H
 go_enter Try.func29, Try.ntmps29
 go_upto_region 1 with (fail)
 go_cut [15] (fun v15 wc => ∃ (kq : Nat) (x15_2 : Bool), v15 = .bool x15_2 ∧ Aside0 (quot_Div.j0 kq l0 l1 x15_2 = some (r1, r2, r3)) ∧ Aside0 (kq ≤ k) ∧ Aside0 (Below w.heap.size w wc))
 case first =>
  have H := HC3.out
  clear HC3
  replace H := Option.bind_eq_some_iff.mp H
  obtain ⟨t196, A40, H⟩ := H
  replace H : (if t196 = true then ((nat_May.f l1).bind fun t197 => (quot_Div.j0 k l0 l1 (!t197))) else (quot_Div.j0 k l0 l1 true)) = some (r1, r2, r3) := H
  have A4 := Aside0.mk A40
  clear A40
  by_cases c5 : t196 = true
  ·
   subst c5
   have H1 : ((nat_May.f l1).bind fun t197 => (quot_Div.j0 k l0 l1 (!t197))) = some (r1, r2, r3) := by rw [if_pos rfl] at H; exact H
   clear H
   have H := H1
   clear H1
   replace H := Option.bind_eq_some_iff.mp H
   obtain ⟨t197, A60, H⟩ := H
   replace H : (quot_Div.j0 k l0 l1 (!t197)) = some (r1, r2, r3) := H
   have A6 := Aside0.mk A60
   clear A60
   have H' := Aside0.mk H
   clear H
   go_wp2_with (first | ((with_reducible refine gate_callee (f := 62) rfl ?_); refine goesL_ (some 17) rfl rfl Try.func62 (by kernel_rfl) rfl #[.slice A0 l0.length c0] rfl mt_ ?_; (with_reducible refine (nat_May.calls _ _ l0 true _ ?side1 ?side2 A4.out).mono ?_); (case side1 => exact cc_ (Kd.C_below HR0.out HB.out)); (case side2 => exact HC0.out); rintro e w' ⟨rfl, ⟨nd, rfl⟩⟩; refine ⟨_, rfl, ?_⟩) | ((with_reducible refine gate_dst (N := 21) rfl ?_); refine gate_guard (by first | rfl | kernel_rfl) ?_; dsimp only; (with_reducible refine gate_callee (f := 62) rfl ?_); refine goesL_ (some 21) rfl rfl Try.func62 (by kernel_rfl) rfl #[.slice A1 l1.length c1] rfl mt_ ?_; (with_reducible refine (nat_May.calls _ _ l1 t197 _ ?side1 ?side2 A6.out).mono ?_); (case side1 => repeat (first | exact (Kd.C_below HR1.out (bb_ HB)) | (with_reducible refine Kd.C_alloc ?_ _) | (with_reducible refine Kd.C_drewN ?_ _) | (with_reducible refine Kd.C_drew ?_))); (case side2 => exact HC1.out); rintro e w' ⟨rfl, ⟨nd, rfl⟩⟩; refine ⟨_, rfl, ?_⟩))
   go_meet
   case rel => exact ⟨_, (!t197), sd_, H', ⟨by first | omega | exact Nat.le_refl _⟩, ⟨by repeat (first | (with_reducible first | exact HB.out | apply below_alloc | apply pw_below_drewN | apply below_drew1) | exact HB.out)⟩⟩
  ·
   replace c5 := Bool.eq_false_iff.mpr c5
   subst c5
   have H1 : (quot_Div.j0 k l0 l1 true) = some (r1, r2, r3) := by rw [if_neg (show ¬ (false = true) by decide)] at H; exact H
   clear H
   have H := H1
   clear H1
   have H' := Aside0.mk H
   clear H
   go_wp2_with (first | ((with_reducible refine gate_callee (f := 62) rfl ?_); refine goesL_ (some 17) rfl rfl Try.func62 (by kernel_rfl) rfl #[.slice A0 l0.length c0] rfl mt_ ?_; (with_reducible refine (nat_May.calls _ _ l0 false _ ?side1 ?side2 A4.out).mono ?_); (case side1 => exact cc_ (Kd.C_below HR0.out HB.out)); (case side2 => exact HC0.out); rintro e w' ⟨rfl, ⟨nd, rfl⟩⟩; refine ⟨_, rfl, ?_⟩))
   go_meet
   case rel => exact ⟨_, (true), sd_, H', ⟨by first | omega | exact Nat.le_refl _⟩, ⟨by repeat (first | (with_reducible first | exact HB.out | apply below_alloc | apply pw_below_drewN | apply below_drew1) | exact HB.out)⟩⟩
 case rest =>
  clear HC3
  try clear c1
  try clear c2
  try clear p2
  try clear c5
  try clear c6
  obtain ⟨kq, x15_2, rfl, HA, HJ2, HB⟩ := hcut
  cases kq with
  | zero => exact absurd HA.out (by simp [quot_Div.j0])
  | succ kj2 =>
   have H := HA.out
   clear HA
   simp only [quot_Div.j0] at H
   by_cases c7 : x15_2 = true
   ·
    subst c7
    have H1 : (some (([] : List Int), ([] : List Int), 1)) = some (r1, r2, r3) := by rw [if_pos rfl] at H; exact H
    clear H
    have H := H1
    clear H1
    simp only [Option.some.injEq, Prod.mk.injEq] at H
    obtain ⟨rfl, rfl, rfl⟩ := H
    go_wp2
    go_ret3
    exact ⟨_, _, by first | rfl | (simp [errW_none, errW_some] <;> rfl) | (simp [*, errW_none, errW_some] <;> rfl), by first | exact Kd.R_nil _ _ _ _ _ | exact Kd.N_nil _ _ _ _ _ | exact Kd.V_nil _ _ _ _ _ | exact Kd.Q_nil _ _ _ _ _ | exact Kd.S_nil _ _ _ _ _, by first | exact Kd.R_nil _ _ _ _ _ | exact Kd.N_nil _ _ _ _ _ | exact Kd.V_nil _ _ _ _ _ | exact Kd.Q_nil _ _ _ _ _ | exact Kd.S_nil _ _ _ _ _, by repeat (first | (with_reducible first | exact HB.out | apply below_alloc | apply pw_below_drewN | apply below_drew1) | exact HB.out)⟩
   ·
    replace c7 := Bool.eq_false_iff.mpr c7
    subst c7
    have H1 : (if (l1.length : Int) = 0 then (some (([] : List Int), ([] : List Int), 30)) else (if (l1.length : Int) = 1 then (if 0 < (l1.length : Int) then ((quot_Small.f kj2 l0 (rd l1 0)).bind fun bt199 => ((nat_Of.f bt199.2.1).bind fun t204 => (some (bt199.1, t204, 0)))) else (none)) else ((limb_Cmp.f kj2 l0 l1).bind fun t207 => (if t207 < 0 then ((limb_Trim.f kj2 l0).bind fun t208 => (some (([] : List Int), t208, 0))) else (if 0 ≤ (wrap64 ((l1.length : Int) - 1)) then (if (wrap64 ((l1.length : Int) - 1)) < (l1.length : Int) then ((bits_LeadingZeros64.f (rd l1 (wrap64 ((l1.length : Int) - 1)))).bind fun t212 => ((limb_Shift.f kj2 l0 t212).bind fun t213 => ((some (([0, 0] : List Int) : List Int)).bind fun y216 => (if t213.length + y216.length < 17592186044416 then ((some (t213 ++ y216 : List Int)).bind fun y219 => ((limb_Shift.f kj2 l1 t212).bind fun t222 => (if 0 ≤ (wrap64 ((y219.length : Int) - (t222.length : Int))) then (if (wrap64 ((y219.length : Int) - (t222.length : Int)) : Int).toNat ≤ 35184372088832 then ((some (List.replicate (wrap64 ((y219.length : Int) - (t222.length : Int)) : Int).toNat 0 : List Int)).bind fun y225 => (quot_Div.l0 kj2 t212 y219 t222 y225 (wrap64 ((y225.length : Int) - 1)))) else (none)) else (none)))) else (none))))) else (none)) else (none)))))) = some (r1, r2, r3) := by rw [if_neg (show ¬ (false = true) by decide)] at H; exact H
    clear H
    have H := H1
    clear H1
    by_cases c8 : (l1.length : Int) = 0
    ·
     rw [if_pos c8] at H
     have c8b0 : ((l1.length : Int) == 0) = true := beq_iff_eq.mpr c8
     have c8b1 : ((l1.length : Int) != 0) = false := bne_eq_false_iff_eq.mpr c8
     clear c8
     simp only [Option.some.injEq, Prod.mk.injEq] at H
     obtain ⟨rfl, rfl, rfl⟩ := H
     go_wp2
     go_ret3
     exact ⟨_, _, by first | rfl | (simp [errW_none, errW_some] <;> rfl) | (simp [*, errW_none, errW_some] <;> rfl), by first | exact Kd.R_nil _ _ _ _ _ | exact Kd.N_nil _ _ _ _ _ | exact Kd.V_nil _ _ _ _ _ | exact Kd.Q_nil _ _ _ _ _ | exact Kd.S_nil _ _ _ _ _, by first | exact Kd.R_nil _ _ _ _ _ | exact Kd.N_nil _ _ _ _ _ | exact Kd.V_nil _ _ _ _ _ | exact Kd.Q_nil _ _ _ _ _ | exact Kd.S_nil _ _ _ _ _, by repeat (first | (with_reducible first | exact HB.out | apply below_alloc | apply pw_below_drewN | apply below_drew1) | exact HB.out)⟩
    ·
     rw [if_neg c8] at H
     have c8b0 : ((l1.length : Int) == 0) = false := beq_eq_false_iff_ne.mpr c8
     have c8b1 : ((l1.length : Int) != 0) = true := bne_iff_ne.mpr c8
     have c8b2 : ¬ (l1 = []) := fun h_ => c8 (by rw [h_]; rfl)
     by_cases c9 : (l1.length : Int) = 1
     ·
      rw [if_pos c9] at H
      have c9b0 : ((l1.length : Int) == 1) = true := beq_iff_eq.mpr c9
      have c9b1 : ((l1.length : Int) != 1) = false := bne_eq_false_iff_eq.mpr c9
      clear c9
      by_cases c10 : 0 < (l1.length : Int)
      ·
       rw [if_pos c10] at H
       have c10b0 : decide (0 < (l1.length : Int)) = true := decide_eq_true c10
       have c10b1 : decide (0 < l1.length) = true := decide_eq_true (by omega)
       clear c10
       replace H := Option.bind_eq_some_iff.mp H
       obtain ⟨⟨t199, t200, t201⟩, A110, H⟩ := H
       replace H : ((nat_Of.f t200).bind fun t204 => (some (t199, t204, 0))) = some (r1, r2, r3) := H
       have A11 := Aside0.mk A110
       clear A110
       replace H := Option.bind_eq_some_iff.mp H
       obtain ⟨t204, A120, H⟩ := H
       replace H : (some (t199, t204, 0)) = some (r1, r2, r3) := H
       have A12 := Aside0.mk A120
       clear A120
       simp only [Option.some.injEq, Prod.mk.injEq] at H
       obtain ⟨rfl, rfl, rfl⟩ := H
       have p198 : 0 ≤ (0 : Int) := (by omega)
       have q198 : 0 < (l1.length : Int) := of_decide_eq_true am_
       obtain ⟨ad198, e198, hx198_0⟩ := Kd.at_int HR1.out 0 p198 q198
       cases e198
       have qi198 : (0 < l1.length) = True := eq_true (by omega)
       (try rw [show ((0 : Int)).toNat = 0 from rfl] at hx198_0)
       (try rw [Addr.add_zero'] at hx198_0)
       replace hx198_0 := (HB.out.cell (World.block_lt_of_cell? w _ hx198_0)).trans hx198_0
       replace p198 := eq_true p198
       replace q198 := eq_true q198
       go_wp2_with (first | ((with_reducible refine gate_callee (f := 31) rfl ?_); refine goesL_ (some 37) rfl rfl Try.func31 (by kernel_rfl) rfl #[.slice A0 l0.length c0, .int .u64 (rd l1 0)] rfl mt_ ?_; (with_reducible refine (quot_Small.calls kj2 _ _ l0 (rd l1 0) t199 t200 t201 _ ?side1 ?side2 A11.out).mono ?_); (case side1 => exact cc_ (Kd.C_below HR0.out HB.out)); (case side2 => exact HC0.out); rintro e w13 ⟨v202, rfl, ho0, hb⟩; refine ⟨_, rfl, ?_⟩; have n0_ := Aside0.mk (Kd.R_lower ho0 (below_size (bb_ HB))); have n1_ := Aside0.mk (below_step (bb_ HB) hb); clear HB; have HO203 := n0_; have HB := n1_; clear n0_ n1_; (try clear hb); (try clear hb2); (try clear hk); (try clear hi); (try clear ho0)) | ((with_reducible refine gate_callee (f := 63) rfl ?_); refine goesL_ (some 43) rfl rfl Try.func63 (by kernel_rfl) rfl #[.int .u64 t200] rfl mt_ ?_; (with_reducible refine (nat_Of.calls t200 t204 _ A12.out).mono ?_); rintro e w14 ⟨v205, rfl, ho0, hb⟩; refine ⟨_, rfl, ?_⟩; have n0_ := Aside0.mk (Kd.R_elder' (rR_ HO203) (Kd.R_base ho0) hb); have n1_ := Aside0.mk (Kd.R_lower (Kd.R_new' ho0 (Kd.R_lt (rR_ HO203))) (below_size (bb_ HB))); have n2_ := Aside0.mk (below_step (bb_ HB) hb); clear HO203; clear HB; have HO203 := n0_; have HO206 := n1_; have HB := n2_; clear n0_ n1_ n2_; (try clear hb); (try clear hb2); (try clear hk); (try clear hi); (try clear ho0)))
       go_ret3
       exact ⟨_, _, by first | rfl | (simp [errW_none, errW_some] <;> rfl) | (simp [*, errW_none, errW_some] <;> rfl), by (with_reducible repeat (first | apply Kd.R_alloc | apply Kd.R_drewN | apply Kd.R_drew)); exact Kd.R_mono HO203.out (fun _ hk => hk.2), by (with_reducible repeat (first | apply Kd.R_alloc | apply Kd.R_drewN | apply Kd.R_drew)); exact Kd.R_mono HO206.out (fun _ hk => hk.2), by repeat (first | (with_reducible first | exact HB.out | apply below_alloc | apply pw_below_drewN | apply below_drew1) | exact HB.out)⟩
      ·
       rw [if_neg c10] at H
       exact absurd H (by simp)
     ·
      rw [if_neg c9] at H
      have c9b0 : ((l1.length : Int) == 1) = false := beq_eq_false_iff_ne.mpr c9
      have c9b1 : ((l1.length : Int) != 1) = true := bne_iff_ne.mpr c9
      replace H := Option.bind_eq_some_iff.mp H
      obtain ⟨t207, A150, H⟩ := H
      replace H : (if t207 < 0 then ((limb_Trim.f kj2 l0).bind fun t208 => (some (([] : List Int), t208, 0))) else (if 0 ≤ (wrap64 ((l1.length : Int) - 1)) then (if (wrap64 ((l1.length : Int) - 1)) < (l1.length : Int) then ((bits_LeadingZeros64.f (rd l1 (wrap64 ((l1.length : Int) - 1)))).bind fun t212 => ((limb_Shift.f kj2 l0 t212).bind fun t213 => ((some (([0, 0] : List Int) : List Int)).bind fun y216 => (if t213.length + y216.length < 17592186044416 then ((some (t213 ++ y216 : List Int)).bind fun y219 => ((limb_Shift.f kj2 l1 t212).bind fun t222 => (if 0 ≤ (wrap64 ((y219.length : Int) - (t222.length : Int))) then (if (wrap64 ((y219.length : Int) - (t222.length : Int)) : Int).toNat ≤ 35184372088832 then ((some (List.replicate (wrap64 ((y219.length : Int) - (t222.length : Int)) : Int).toNat 0 : List Int)).bind fun y225 => (quot_Div.l0 kj2 t212 y219 t222 y225 (wrap64 ((y225.length : Int) - 1)))) else (none)) else (none)))) else (none))))) else (none)) else (none))) = some (r1, r2, r3) := H
      have A15 := Aside0.mk A150
      clear A150
      by_cases c16 : t207 < 0
      ·
       rw [if_pos c16] at H
       have c16b0 : decide (t207 < 0) = true := decide_eq_true c16
       clear c16
       replace H := Option.bind_eq_some_iff.mp H
       obtain ⟨t208, A170, H⟩ := H
       replace H : (some (([] : List Int), t208, 0)) = some (r1, r2, r3) := H
       have A17 := Aside0.mk A170
       clear A170
       simp only [Option.some.injEq, Prod.mk.injEq] at H
       obtain ⟨rfl, rfl, rfl⟩ := H
       go_wp2_with (first | ((with_reducible refine gate_callee (f := 64) rfl ?_); refine goesL_ (some 47) rfl rfl Try.func64 (by kernel_rfl) rfl #[.slice A0 l0.length c0, .slice A1 l1.length c1] rfl mt_ ?_; (with_reducible refine (limb_Cmp.calls kj2 _ _ l0 _ _ l1 t207 _ ?side1 ?side2 ?side3 ?side4 A15.out).mono ?_); (case side1 => exact cc_ (Kd.C_below HR0.out HB.out)); (case side2 => exact HC0.out); (case side3 => exact cc_ (Kd.C_below HR1.out HB.out)); (case side4 => exact HC1.out); rintro e w18 ⟨rfl, hb⟩; refine ⟨_, rfl, ?_⟩; have n0_ := Aside0.mk (below_step (bb_ HB) hb); clear HB; have HB := n0_; clear n0_; (try clear hb); (try clear hb2); (try clear hk); (try clear hi)) | ((with_reducible refine gate_callee (f := 65) rfl ?_); refine goesL_ (some 50) rfl rfl Try.func65 (by kernel_rfl) rfl #[.slice A0 l0.length c0] rfl mt_ ?_; (with_reducible refine (limb_Trim.calls kj2 _ _ l0 t208 _ ?side1 ?side2 A17.out).mono ?_); (case side1 => exact cc_ (Kd.C_below HR0.out HB.out)); (case side2 => exact HC0.out); rintro e w19 ⟨v209, rfl, ho0, hb⟩; refine ⟨_, rfl, ?_⟩; have n0_ := Aside0.mk (Kd.R_lower ho0 (below_size (bb_ HB))); have n1_ := Aside0.mk (below_step (bb_ HB) hb); clear HB; have HO210 := n0_; have HB := n1_; clear n0_ n1_; (try clear hb); (try clear hb2); (try clear hk); (try clear hi); (try clear ho0)))
       go_ret3
       exact ⟨_, _, by first | rfl | (simp [errW_none, errW_some] <;> rfl) | (simp [*, errW_none, errW_some] <;> rfl), by first | exact Kd.R_nil _ _ _ _ _ | exact Kd.N_nil _ _ _ _ _ | exact Kd.V_nil _ _ _ _ _ | exact Kd.Q_nil _ _ _ _ _ | exact Kd.S_nil _ _ _ _ _, by (with_reducible repeat (first | apply Kd.R_alloc | apply Kd.R_drewN | apply Kd.R_drew)); exact Kd.R_mono HO210.out (fun _ hk => (by simp [Value.ownBlock])), by repeat (first | (with_reducible first | exact HB.out | apply below_alloc | apply pw_below_drewN | apply below_drew1) | exact HB.out)⟩
      ·
       rw [if_neg c16] at H
       have c16b0 : decide (t207 < 0) = false := decide_eq_false c16
       clear c16
       obtain ⟨ji20, hji20⟩ : ∃ j_ : Int, (wrap64 ((l1.length : Int) - 1)) = j_ := ⟨_, rfl⟩
       replace H : (if 0 ≤ (ji20) then (if (ji20) < (l1.length : Int) then ((bits_LeadingZeros64.f (rd l1 (ji20))).bind fun t212 => ((limb_Shift.f kj2 l0 t212).bind fun t213 => ((some (([0, 0] : List Int) : List Int)).bind fun y216 => (if t213.length + y216.length < 17592186044416 then ((some (t213 ++ y216 : List Int)).bind fun y219 => ((limb_Shift.f kj2 l1 t212).bind fun t222 => (if 0 ≤ (wrap64 ((y219.length : Int) - (t222.length : Int))) then (if (wrap64 ((y219.length : Int) - (t222.length : Int)) : Int).toNat ≤ 35184372088832 then ((some (List.replicate (wrap64 ((y219.length : Int) - (t222.length : Int)) : Int).toNat 0 : List Int)).bind fun y225 => (quot_Div.l0 kj2 t212 y219 t222 y225 (wrap64 ((y225.length : Int) - 1)))) else (none)) else (none)))) else (none))))) else (none)) else (none)) = some (r1, r2, r3) := by first | (rw [hji20] at H; exact H) | (simp only [hji20] at H ⊢; exact H)
       (try rw [hji20] at A15)
       have hji20w : (IntKind.i64.wrap ((l1.length : Int) - 1)) = ji20 := (i64_w _).trans hji20
       by_cases c21 : 0 ≤ (ji20)
       ·
        rw [if_pos c21] at H
        have c21b0 : decide (0 ≤ (ji20)) = true := decide_eq_true c21
        clear c21
        by_cases c22 : (ji20) < (l1.length : Int)
        ·
         rw [if_pos c22] at H
         have c22b0 : decide ((ji20) < (l1.length : Int)) = true := decide_eq_true c22
         clear c22
         replace H := Option.bind_eq_some_iff.mp H
         obtain ⟨t212, A230, H⟩ := H
         replace H : ((limb_Shift.f kj2 l0 t212).bind fun t213 => ((some (([0, 0] : List Int) : List Int)).bind fun y216 => (if t213.length + y216.length < 17592186044416 then ((some (t213 ++ y216 : List Int)).bind fun y219 => ((limb_Shift.f kj2 l1 t212).bind fun t222 => (if 0 ≤ (wrap64 ((y219.length : Int) - (t222.length : Int))) then (if (wrap64 ((y219.length : Int) - (t222.length : Int)) : Int).toNat ≤ 35184372088832 then ((some (List.replicate (wrap64 ((y219.length : Int) - (t222.length : Int)) : Int).toNat 0 : List Int)).bind fun y225 => (quot_Div.l0 kj2 t212 y219 t222 y225 (wrap64 ((y225.length : Int) - 1)))) else (none)) else (none)))) else (none)))) = some (r1, r2, r3) := H
         have A23 := Aside0.mk A230
         clear A230
         replace H := Option.bind_eq_some_iff.mp H
         obtain ⟨t213, A240, H⟩ := H
         replace H : ((some (([0, 0] : List Int) : List Int)).bind fun y216 => (if t213.length + y216.length < 17592186044416 then ((some (t213 ++ y216 : List Int)).bind fun y219 => ((limb_Shift.f kj2 l1 t212).bind fun t222 => (if 0 ≤ (wrap64 ((y219.length : Int) - (t222.length : Int))) then (if (wrap64 ((y219.length : Int) - (t222.length : Int)) : Int).toNat ≤ 35184372088832 then ((some (List.replicate (wrap64 ((y219.length : Int) - (t222.length : Int)) : Int).toNat 0 : List Int)).bind fun y225 => (quot_Div.l0 kj2 t212 y219 t222 y225 (wrap64 ((y225.length : Int) - 1)))) else (none)) else (none)))) else (none))) = some (r1, r2, r3) := H
         have A24 := Aside0.mk A240
         clear A240
         obtain ⟨y216, hy216⟩ : ∃ y_ : List Int, y_ = (([0, 0] : List Int)) := ⟨_, rfl⟩
         replace H : (if t213.length + y216.length < 17592186044416 then ((some (t213 ++ y216 : List Int)).bind fun y219 => ((limb_Shift.f kj2 l1 t212).bind fun t222 => (if 0 ≤ (wrap64 ((y219.length : Int) - (t222.length : Int))) then (if (wrap64 ((y219.length : Int) - (t222.length : Int)) : Int).toNat ≤ 35184372088832 then ((some (List.replicate (wrap64 ((y219.length : Int) - (t222.length : Int)) : Int).toNat 0 : List Int)).bind fun y225 => (quot_Div.l0 kj2 t212 y219 t222 y225 (wrap64 ((y225.length : Int) - 1)))) else (none)) else (none)))) else (none)) = some (r1, r2, r3) := by first | (rw [hy216]; with_reducible exact H) | (have H2_ := (Option.bind_some _ _).symm.trans H; rw [hy216]; with_reducible exact H2_) | (have H2_ := (Option.bind_some _ _).symm.trans H; with_reducible exact H2_) | with_reducible exact H | (rw [hy216]; exact H) | exact H
         have Ny216 := Aside0.mk hy216
         clear hy216
         by_cases c25 : t213.length + y216.length < 17592186044416
         ·
          rw [if_pos c25] at H
          have LMc25 := Aside0.mk c25
          clear c25
          obtain ⟨y219, hy219⟩ : ∃ y_ : List Int, y_ = (t213 ++ y216) := ⟨_, rfl⟩
          replace H : ((limb_Shift.f kj2 l1 t212).bind fun t222 => (if 0 ≤ (wrap64 ((y219.length : Int) - (t222.length : Int))) then (if (wrap64 ((y219.length : Int) - (t222.length : Int)) : Int).toNat ≤ 35184372088832 then ((some (List.replicate (wrap64 ((y219.length : Int) - (t222.length : Int)) : Int).toNat 0 : List Int)).bind fun y225 => (quot_Div.l0 kj2 t212 y219 t222 y225 (wrap64 ((y225.length : Int) - 1)))) else (none)) else (none))) = some (r1, r2, r3) := by first | (rw [hy219]; with_reducible exact H) | (have H2_ := (Option.bind_some _ _).symm.trans H; rw [hy219]; with_reducible exact H2_) | (have H2_ := (Option.bind_some _ _).symm.trans H; with_reducible exact H2_) | with_reducible exact H | (rw [hy219]; exact H) | exact H
          have Ny219 := Aside0.mk hy219
          clear hy219
          replace H := Option.bind_eq_some_iff.mp H
          obtain ⟨t222, A260, H⟩ := H
          replace H : (if 0 ≤ (wrap64 ((y219.length : Int) - (t222.length : Int))) then (if (wrap64 ((y219.length : Int) - (t222.length : Int)) : Int).toNat ≤ 35184372088832 then ((some (List.replicate (wrap64 ((y219.length : Int) - (t222.length : Int)) : Int).toNat 0 : List Int)).bind fun y225 => (quot_Div.l0 kj2 t212 y219 t222 y225 (wrap64 ((y225.length : Int) - 1)))) else (none)) else (none)) = some (r1, r2, r3) := H
          have A26 := Aside0.mk A260
          clear A260
          obtain ⟨ji27, hji27⟩ : ∃ j_ : Int, (wrap64 ((y219.length : Int) - (t222.length : Int))) = j_ := ⟨_, rfl⟩
          replace H : (if 0 ≤ (ji27) then (if (ji27 : Int).toNat ≤ 35184372088832 then ((some (List.replicate (ji27 : Int).toNat 0 : List Int)).bind fun y225 => (quot_Div.l0 kj2 t212 y219 t222 y225 (wrap64 ((y225.length : Int) - 1)))) else (none)) else (none)) = some (r1, r2, r3) := by first | (rw [hji27] at H; exact H) | (simp only [hji27] at H ⊢; exact H)
          (try rw [hji27] at A15)
          (try rw [hji27] at A23)
          (try rw [hji27] at A24)
          (try rw [hji27] at A26)
          have hji27w : (IntKind.i64.wrap ((y219.length : Int) - (t222.length : Int))) = ji27 := (i64_w _).trans hji27
          by_cases c28 : 0 ≤ (ji27)
          ·
           rw [if_pos c28] at H
           have c28b0 := eq_true c28
           have c28b1 : decide (0 ≤ (ji27)) = true := decide_eq_true c28
           clear c28
           by_cases c29 : (ji27 : Int).toNat ≤ 35184372088832
           ·
            rw [if_pos c29] at H
            have c29b0 := eq_true c29
            have c29b1 : decide ((ji27 : Int).toNat ≤ 35184372088832) = true := decide_eq_true c29
            clear c29
            obtain ⟨y225, hy225⟩ : ∃ y_ : List Int, y_ = (List.replicate (ji27 : Int).toNat 0) := ⟨_, rfl⟩
            replace H : (quot_Div.l0 kj2 t212 y219 t222 y225 (wrap64 ((y225.length : Int) - 1))) = some (r1, r2, r3) := by first | (rw [hy225]; with_reducible exact H) | (have H2_ := (Option.bind_some _ _).symm.trans H; rw [hy225]; with_reducible exact H2_) | (have H2_ := (Option.bind_some _ _).symm.trans H; with_reducible exact H2_) | with_reducible exact H | (rw [hy225]; exact H) | exact H
            have Ny225 := Aside0.mk hy225
            clear hy225
            have H' := Aside0.mk H
            clear H
            go_wp2_with (first | ((with_reducible refine gate_callee (f := 64) rfl ?_); refine goesL_ (some 47) rfl rfl Try.func64 (by kernel_rfl) rfl #[.slice A0 l0.length c0, .slice A1 l1.length c1] rfl mt_ ?_; (with_reducible refine (limb_Cmp.calls kj2 _ _ l0 _ _ l1 t207 _ ?side1 ?side2 ?side3 ?side4 A15.out).mono ?_); (case side1 => exact cc_ (Kd.C_below HR0.out HB.out)); (case side2 => exact HC0.out); (case side3 => exact cc_ (Kd.C_below HR1.out HB.out)); (case side4 => exact HC1.out); rintro e w30 ⟨rfl, hb⟩; refine ⟨_, rfl, ?_⟩; have n0_ := Aside0.mk (below_step (bb_ HB) hb); clear HB; have HB := n0_; clear n0_; (try clear hb); (try clear hb2); (try clear hk); (try clear hi); have p211 : 0 ≤ ((ji20) : Int) := of_decide_eq_true am_; have q211 : (ji20) < (l1.length : Int) := of_decide_eq_true am_; obtain ⟨ad211, e211, hx211_0⟩ := Kd.at_int HR1.out (ji20) p211 q211; cases e211; replace hx211_0 := (HB.out.cell (World.block_lt_of_cell? w _ hx211_0)).trans hx211_0; replace p211 := eq_true p211; replace q211 := eq_true q211) | ((with_reducible refine gate_callee (f := 66) rfl ?_); refine goesL_ (some 57) rfl rfl Try.func66 (by kernel_rfl) rfl #[.int .u64 (rd l1 (ji20))] rfl (by (try simp only [List.map_toArray, List.map_cons, List.map_nil]); first | done | (simp only [hji20]; rfl) | rfl | (simp only [List.length_drop, List.length_take]; rfl)) ?_; (with_reducible refine (bits_LeadingZeros64.calls (rd l1 (ji20)) t212 _ A23.out).mono ?_); rintro e w31 ⟨rfl, hb⟩; refine ⟨_, rfl, ?_⟩; have n0_ := Aside0.mk (below_step (bb_ HB) hb); clear HB; have HB := n0_; clear n0_; (try clear hb); (try clear hb2); (try clear hk); (try clear hi)) | ((with_reducible refine gate_callee (f := 67) rfl ?_); refine goesL_ (some 60) rfl rfl Try.func67 (by kernel_rfl) rfl #[.slice A0 l0.length c0, .int .i64 t212] rfl mt_ ?_; (with_reducible refine (limb_Shift.calls kj2 _ _ l0 t212 t213 _ ?side1 ?side2 A24.out).mono ?_); (case side1 => exact cc_ (Kd.C_below HR0.out HB.out)); (case side2 => exact HC0.out); rintro e w32 ⟨v214, rfl, ho0, hb⟩; refine ⟨_, rfl, ?_⟩; have n0_ := Aside0.mk (Kd.R_lower ho0 (below_size (bb_ HB))); have n1_ := Aside0.mk (below_step (bb_ HB) hb); clear HB; have HO215 := n0_; have HB := n1_; clear n0_ n1_; (try clear hb); (try clear hb2); (try clear hk); (try clear hi); (try clear ho0)) | ((with_reducible refine gate_dst (N := 61) rfl ?_); refine Kd.R_lit (Kd.int .u64) _ 50 ?hg (N := 61) ?hd (xs := ([0, 0] : List Int)) (inner := [.int .u64 0, .int .u64 0]) (ok := fun _ => True) (okp := fun _ => True) ?hr ?hp (fun _ hk => hk) trivial (Below.refl _ _) (Nat.le_refl _) (by simp) ?_; (case hd => rfl); (case hg => rfl); (case hr => exact gs_); (case hp => exact (Reps.one (show Kd.M (Kd.int .u64) _ _ _ 0 [.int .u64 0] from rfl) (Reps.one (show Kd.M (Kd.int .u64) _ _ _ 0 [.int .u64 0] from rfl) (Reps.none _ _)))); intro v217 w33 ho34 hb hg_ hnew_; clear hg_ hnew_; (first | rw [← Ny216.out] at ho34 | (simp only [Int.reduceToNat] at ho34; rw [← Ny216.out] at ho34)); have n0_ := Aside0.mk (Kd.R_elder' (rR_ HO215) (Kd.R_base ho34) hb); have n1_ := Aside0.mk (Kd.R_lower (Kd.R_new' ho34 (Kd.R_lt (rR_ HO215))) (below_size (bb_ HB))); have n2_ := Aside0.mk (below_step (bb_ HB) hb); clear HO215; clear HB; have HO215 := n0_; have HO218 := n1_; have HB := n2_; clear n0_ n1_ n2_; clear hb ho34; obtain ⟨Ao36, co36, eo36⟩ := Kd.R_slice HO218.out; subst eo36) | ((with_reducible refine gate_builtin (b := .append) (xs := #[.tmp 60, .tmp 61]) rfl ?_); at_builtin; refine Kd.R_append_rows (Kd.int .u64) (w0 := w) w.heap.size rfl (.tmp 60) (.tmp 61) 48 50 (.int .u64 0) 8 rfl Try.underlying48 info50 rfl (by decide) (by omega) v214 t213 y216 _ _ _ (fun k_ => some k_ ≠ (.slice Ao36 y216.length co36 : Value).ownBlock) (fun _ => False) rfl rfl ?aO ?aR (fun _ _ h => h) (fun _ h => h.elim) ?aF ?aB ?aS ?aL ?_; (case aR => exact cc_ (Kd.R_reads' HO218.out).2.2); (case aB => exact (bb_ HB)); (case aF => exact (fun k_ hk => Kd.fresh' (Kd.R_lt (rR_ HO218)) k_ hk)); (case aO => exact (by (with_reducible repeat (first | apply Kd.R_alloc | apply Kd.R_drewN | apply Kd.R_drew)); exact Kd.R_mono HO215.out (fun _ hk => hk.2))); (case aS => exact (below_size (bb_ HB))); (case aL => have := LMc25.out; omega); intro v220 w35 ho hb hg hat; rw [← Ny219.out] at ho; have n0_ := Aside0.mk (Kd.R_after (ok := (fun _ => True)) (rR_ HO218) hg hat); have n1_ := Aside0.mk (hb); have n2_ := Aside0.mk (ho); clear HO218; clear HB; clear HO215; have HO218 := n0_; have HB := n1_; have HO221 := n2_; clear n0_ n1_ n2_; clear ho hb hg hat) | ((with_reducible refine gate_callee (f := 67) rfl ?_); refine goesL_ (some 65) rfl rfl Try.func67 (by kernel_rfl) rfl #[.slice (some ad211) l1.length c1, .int .i64 t212] rfl mt_ ?_; (with_reducible refine (limb_Shift.calls kj2 _ _ l1 t212 t222 _ ?side1 ?side2 A26.out).mono ?_); (case side1 => exact cc_ (Kd.C_below HR1.out HB.out)); (case side2 => exact HC1.out); rintro e w37 ⟨v223, rfl, ho0, hb⟩; refine ⟨_, rfl, ?_⟩; have n0_ := Aside0.mk (Kd.R_elder' (rR_ HO218) (Kd.R_base ho0) hb); have n1_ := Aside0.mk (Kd.R_elder' (rR_ HO221) (Kd.R_base ho0) hb); have n2_ := Aside0.mk (Kd.R_lower (Kd.R_new' (Kd.R_new' ho0 (Kd.R_lt (rR_ HO218))) (Kd.R_lt (rR_ HO221))) (below_size (bb_ HB))); have n3_ := Aside0.mk (below_step (bb_ HB) hb); clear HO218; clear HO221; clear HB; have HO218 := n0_; have HO221 := n1_; have HO224 := n2_; have HB := n3_; clear n0_ n1_ n2_ n3_; (try clear hb); (try clear hb2); (try clear hk); (try clear hi); (try clear ho0); obtain ⟨Ao38, co38, eo38⟩ := Kd.R_slice HO221.out; subst eo38; obtain ⟨Ao39, co39, eo39⟩ := Kd.R_slice HO224.out; subst eo39) | ((with_reducible refine gate_dst (N := 71) rfl ?_); refine Kd.R_make (Kd.int .u64) _ 50 rfl (N := 71) rfl 48 _ _ rfl ji27 rfl rfl Try.underlying48 (.int .u64 0) 8 info50 rfl (by decide) (by omega) 0 (ok := fun _ => True) (okp := fun _ => True) rfl (fun _ hk => hk) trivial (of_decide_eq_true am_) (Nat.le_trans (Nat.mul_le_mul_right _ (of_decide_eq_true am_ : ji27.toNat ≤ 35184372088832)) (by omega)) (Below.refl _ _) (Nat.le_refl _) ?_; intro v226 w40 ho41 hb hg_ hnew_; clear hg_ hnew_; (first | rw [← Ny225.out] at ho41 | (simp only [Int.reduceToNat] at ho41; rw [← Ny225.out] at ho41)); have n0_ := Aside0.mk (Kd.R_elder' (rR_ HO218) (Kd.R_base ho41) hb); have n1_ := Aside0.mk (Kd.R_elder' (rR_ HO221) (Kd.R_base ho41) hb); have n2_ := Aside0.mk (Kd.R_elder' (rR_ HO224) (Kd.R_base ho41) hb); have n3_ := Aside0.mk (Kd.R_lower (Kd.R_new' (Kd.R_new' (Kd.R_new' ho41 (Kd.R_lt (rR_ HO218))) (Kd.R_lt (rR_ HO221))) (Kd.R_lt (rR_ HO224))) (below_size (bb_ HB))); have n4_ := Aside0.mk (below_step (bb_ HB) hb); clear HO218; clear HO221; clear HO224; clear HB; have HO218 := n0_; have HO221 := n1_; have HO224 := n2_; have HO227 := n3_; have HB := n4_; clear n0_ n1_ n2_ n3_ n4_; clear hb ho41; obtain ⟨Ao42, co42, eo42⟩ := Kd.R_slice HO227.out; subst eo42))
            go_loopg [14] kj2 (fun kq v14 w' => ∃ (x11_2 x13_2 : List Int) (x14_2 : Int), v14 = .int .i64 x14_2 ∧ Aside0 (quot_Div.l0 kq t212 x11_2 t222 x13_2 x14_2 = some (r1, r2, r3)) ∧ Aside0 (kq ≤ kj2) ∧ Aside0 (Kd.R (Kd.int .u64) 50 w' w.heap.size (fun k_ => some k_ ≠ ((.slice Ao39 t222.length co39) : Value).ownBlock ∧ some k_ ≠ ((.slice Ao42 y225.length co42) : Value).ownBlock) (.slice Ao38 y219.length co38) x11_2) ∧ Aside0 (Kd.R (Kd.int .u64) 50 w' w.heap.size (fun k_ => some k_ ≠ ((.slice Ao38 y219.length co38) : Value).ownBlock ∧ some k_ ≠ ((.slice Ao42 y225.length co42) : Value).ownBlock) (.slice Ao39 t222.length co39) t222) ∧ Aside0 (Kd.R (Kd.int .u64) 50 w' w.heap.size (fun k_ => some k_ ≠ ((.slice Ao38 y219.length co38) : Value).ownBlock ∧ some k_ ≠ ((.slice Ao39 t222.length co39) : Value).ownBlock) (.slice Ao42 y225.length co42) x13_2) ∧ Aside0 (Below w.heap.size w w'))
            case atStart => exact ⟨(y219), (y225), (wrap64 ((y225.length : Int) - 1)), sd_, H', ⟨Nat.le_refl _⟩, ⟨by (with_reducible repeat (first | apply Kd.R_alloc | apply Kd.R_drewN | apply Kd.R_drew)); exact Kd.R_mono HO221.out (fun _ hk => ⟨hk.1.2, hk.2⟩)⟩, ⟨by (with_reducible repeat (first | apply Kd.R_alloc | apply Kd.R_drewN | apply Kd.R_drew)); exact Kd.R_mono HO224.out (fun _ hk => ⟨hk.1.2, hk.2⟩)⟩, ⟨by (with_reducible repeat (first | apply Kd.R_alloc | apply Kd.R_drewN | apply Kd.R_drew)); exact Kd.R_mono HO227.out (fun _ hk => ⟨hk.1.2, hk.2⟩)⟩, ⟨by repeat (first | (with_reducible first | exact HB.out | apply below_alloc | apply pw_below_drewN | apply below_drew1) | exact HB.out)⟩⟩
            case round =>
             clear H'
             try clear c1
             try clear p1
             try clear q1
             try clear hx1
             try clear qi1
             try clear c2
             try clear p2
             try clear q2
             try clear hx2
             try clear c3
             try clear c5
             try clear c6
             try clear p6
             try clear c7
             try clear c8
             try clear c8b0
             try clear c8b1
             try clear c8b2
             try clear c9
             try clear c9b0
             try clear c9b1
             try clear c10
             try clear c10b0
             try clear c10b1
             try clear c16
             try clear c16b0
             try clear p19
             try clear q19
             try clear hx19
             try clear qi19
             try clear c21
             try clear c21b0
             try clear p21
             try clear q21
             try clear hx21
             try clear c22
             try clear c22b0
             try clear c25
             try clear c28
             try clear c28b0
             try clear c28b1
             try clear c29
             try clear c29b0
             try clear c29b1
             try clear c31
             try clear hx198_0
             try clear hx211_0
             try clear p198
             try clear p2
             try clear p211
             try clear q198
             try clear q211
             obtain ⟨x11_2, x13_2, x14_2, rfl, HA, HK2, HO_11, HO_12, HO_13, HB⟩ := hrel
             have hl11_2 := (Kd.R_reads' HO_11.out).1
             rw [hl11_2] at HO_11
             (try simp only [hl11_2])
             (try simp only [hl11_2] at HO_12)
             (try simp only [hl11_2] at HO_13)
             have hl13_2 := (Kd.R_reads' HO_13.out).1
             rw [hl13_2] at HO_13
             (try simp only [hl13_2])
             (try simp only [hl13_2] at HO_11)
             (try simp only [hl13_2] at HO_12)
             cases gk with
             | zero => exact absurd HA.out (by simp [quot_Div.l0])
             | succ k2 =>
              have H := HA.out
              clear HA
              simp only [quot_Div.l0] at H
              by_cases c43 : x14_2 ≥ 0
              ·
               rw [if_pos c43] at H
               have c43b0 : decide (0 ≤ x14_2) = true := decide_eq_true c43
               clear c43
               obtain ⟨ji44, hji44⟩ : ∃ j_ : Int, (mn (wrap64 ((wrap64 (x14_2 + (t222.length : Int))) + 1)) (x11_2.length : Int)) = j_ := ⟨_, rfl⟩
               replace H : (if 0 ≤ x14_2 then (if x14_2 ≤ (ji44) then (if (ji44) ≤ (x11_2.length : Int) then ((quot_digit.f k2 ((x11_2.take ((ji44) : Int).toNat).drop (x14_2 : Int).toNat) t222).bind fun t232 => (if x14_2 < (x13_2.length : Int) then (quot_Div.l0 k2 t212 (Go.splice x11_2 (x14_2 : Int).toNat t232.2) t222 (x13_2.set (x14_2 : Int).toNat t232.1) (wrap64 (x14_2 - 1))) else (none))) else (none)) else (none)) else (none)) = some (r1, r2, r3) := by first | (rw [hji44] at H; exact H) | (simp only [hji44] at H ⊢; exact H)
               have hji44_ : (if (x11_2.length : Int) < (wrap64 ((wrap64 (x14_2 + (t222.length : Int))) + 1)) then (x11_2.length : Int) else (wrap64 ((wrap64 (x14_2 + (t222.length : Int))) + 1))) = ji44 := hji44
               by_cases c45 : 0 ≤ x14_2
               ·
                rw [if_pos c45] at H
                have c45b0 := eq_true c45
                have c45b1 : decide (0 ≤ x14_2) = true := decide_eq_true c45
                clear c45
                by_cases c46 : x14_2 ≤ (ji44)
                ·
                 rw [if_pos c46] at H
                 have c46b0 := eq_true c46
                 have c46b1 : decide (x14_2 ≤ (ji44)) = true := decide_eq_true c46
                 clear c46
                 by_cases c47 : (ji44) ≤ (x11_2.length : Int)
                 ·
                  rw [if_pos c47] at H
                  have c47b0 := eq_true c47
                  have c47b1 : decide ((ji44) ≤ (x11_2.length : Int)) = true := decide_eq_true c47
                  clear c47
                  obtain ⟨y228, hy228⟩ : ∃ y_ : List Int, y_ = ((x11_2.take ((ji44) : Int).toNat).drop (x14_2 : Int).toNat) := ⟨_, rfl⟩
                  replace H : ((quot_digit.f k2 y228 t222).bind fun t232 => (if x14_2 < (x13_2.length : Int) then (quot_Div.l0 k2 t212 (Go.splice x11_2 (x14_2 : Int).toNat t232.2) t222 (x13_2.set (x14_2 : Int).toNat t232.1) (wrap64 (x14_2 - 1))) else (none))) = some (r1, r2, r3) := by first | (rw [hy228]; with_reducible exact H) | (have H2_ := (Option.bind_some _ _).symm.trans H; rw [hy228]; with_reducible exact H2_) | (have H2_ := (Option.bind_some _ _).symm.trans H; with_reducible exact H2_) | with_reducible exact H | (rw [hy228]; exact H) | exact H
                  have Ny228 := Aside0.mk hy228
                  clear hy228
                  replace H := Option.bind_eq_some_iff.mp H
                  obtain ⟨t232, A480, H⟩ := H
                  replace H : (if x14_2 < (x13_2.length : Int) then (quot_Div.l0 k2 t212 (Go.splice x11_2 (x14_2 : Int).toNat t232.2) t222 (x13_2.set (x14_2 : Int).toNat t232.1) (wrap64 (x14_2 - 1))) else (none)) = some (r1, r2, r3) := H
                  have A48 := Aside0.mk A480
                  clear A480
                  by_cases c49 : x14_2 < (x13_2.length : Int)
                  ·
                   rw [if_pos c49] at H
                   have c49b0 : decide (x14_2 < (x13_2.length : Int)) = true := decide_eq_true c49
                   (try simp only [hl13_2] at c49b0)
                   clear c49
                   obtain ⟨y233, hy233⟩ : ∃ y_ : List Int, y_ = (x13_2.set (x14_2 : Int).toNat t232.1) := ⟨_, rfl⟩
                   replace H : (quot_Div.l0 k2 t212 (Go.splice x11_2 (x14_2 : Int).toNat t232.2) t222 y233 (wrap64 (x14_2 - 1))) = some (r1, r2, r3) := by first | (rw [hy233]; with_reducible exact H) | (have H2_ := (Option.bind_some _ _).symm.trans H; rw [hy233]; with_reducible exact H2_) | (have H2_ := (Option.bind_some _ _).symm.trans H; with_reducible exact H2_) | with_reducible exact H | (rw [hy233]; exact H) | exact H
                   have Ny233 := Aside0.mk hy233
                   clear hy233
                   have H' := Aside0.mk H
                   clear H
                   have q51 : ((ji44) : Int) ≤ ((x11_2.length : Int) : Int) := of_decide_eq_true am_
                   obtain ⟨i051, hi051, _, hsz51, _⟩ := info_parts info50
                   have hroom51 : x11_2.length ≤ co38 := (Kd.R_reads' HO_11.out).2.1
                   have hC51 : Kd.C (Kd.int .u64) _ Ao38 x11_2.length x11_2 := (Kd.R_reads' HO_11.out).2.2
                   have ql51 : (x14_2 : Int) ≤ ((ji44) : Int) := of_decide_eq_true am_
                   have q051 : (0 : Int) ≤ (x14_2 : Int) := of_decide_eq_true am_
                   have hcut51 := cut_mid (P := Try.prog) 48 50 .i64 .i64 Try.underlying48 hi051 1 hsz51 Ao38 x11_2.length co38 x14_2 (ji44) q051 ql51 q51 hroom51
                   have hr51 := Kd.C_mid (lo := (x14_2 : Int).toNat) (hi := ((ji44) : Int).toNat) (c := co38) hC51 (by omega) (by omega) hroom51
                   obtain ⟨A51, hA51⟩ : ∃ A1, A1 = (if co38 = (x14_2 : Int).toNat then Ao38 else (Ao38 : Option Addr).map (·.add ((x14_2 : Int).toNat * 1))) := ⟨_, rfl⟩
                   obtain ⟨c51, hc51⟩ : ∃ c1, c1 = co38 - (x14_2 : Int).toNat := ⟨_, rfl⟩
                   have hy51 : y228.length = ((ji44) : Int).toNat - (x14_2 : Int).toNat := (by rw [Ny228.out, List.length_drop, List.length_take] <;> omega)
                   rw [show ((x11_2).take ((ji44) : Int).toNat).drop (x14_2 : Int).toNat = y228 from Ny228.out.symm] at hr51
                   replace hr51 : Kd.C (Kd.int .u64) _ A51 y228.length y228 := (by rw [hA51]; exact hr51)
                   rw [← hy51, ← hA51, ← hc51] at hcut51
                   have HR231 := Aside0.mk hr51
                   have HC231 := Aside0.mk (show y228.length ≤ c51 from by rw [hy51, hc51]; exact Nat.sub_le_sub_right (Nat.le_trans (by omega) hroom51) _)
                   clear hr51 hC51 hroom51 hi051 hsz51 hc51
                   have KY51 := Aside0.mk hy51
                   have KA51 := Aside0.mk hA51
                   clear hy51 hA51
                   have KL51 := Aside0.mk (show ((ji44) : Int).toNat ≤ x11_2.length from by omega)
                   have KM51 := Aside0.mk (show (x14_2 : Int).toNat ≤ ((ji44) : Int).toNat from by omega)
                   replace q51 := eq_true q51
                   obtain ⟨d_, u1_⟩ := t232
                   have hdl := quot_digit.len A48.out
                   have hdu := quot_digit.len2 A48.out
                   have hx11 : 0 < x11_2.length := by have := KL51.out; have := KM51.out; have := KY51.out; omega
                   obtain ⟨ga, ca, ea, hga0, hga1, -⟩ := Kd.R_form HO_11.out hx11
                   injection ea with ea_ en_ ec_
                   subst ea_
                   clear en_
                   subst ec_
                   obtain ⟨cur, hcur, hcl, hspl⟩ := R_spliced (i := (x14_2 : Int).toNat) HO_11.out
                   have hA_ : A51 = some ⟨ga, (x14_2 : Int).toNat, none⟩ := by rw [KA51.out, if_neg (by have := KL51.out; have := KM51.out; have := KY51.out; have := (Kd.R_reads' HO_11.out).2.1; omega), Option.map_some, Nat.mul_one, add_plain]
                   have hq13 : x14_2 < (x13_2.length : Int) := of_decide_eq_true am_
                   have hp13 : 0 ≤ x14_2 := of_decide_eq_true am_
                   obtain ⟨go_, co_, eo_, hgo0, hgo1, -⟩ := Kd.R_form HO_13.out (by omega)
                   injection eo_ with ea_ en_ ec_
                   subst ea_
                   clear en_
                   subst ec_
                   have hRW := HR231.out
                   rw [hA_] at hRW
                   have HFX := Aside0.mk (show (x14_2 : Int).toNat + y228.length ≤ x11_2.length ∧ (x14_2 : Int).toNat + y228.length ≤ cur.length from by have := KL51.out; have := KM51.out; have := KY51.out; omega)
                   have HCUR := Aside0.mk hcur
                   have HSPL := Aside0.mk hspl
                   have HRW := Aside0.mk hRW
                   have HDU := Aside0.mk hdu
                   have HGA := Aside0.mk (And.intro hga0 hgo0)
                   subst hA_
                   clear hcur hcl hspl hRW hdu hdl hx11 hga0 hga1 hgo0 hgo1 HR231
                   replace hq13 := eq_true hq13
                   replace hp13 := eq_true hp13
                   go_wp2_with fail
                   refine (quot_digit.calls k2 ga (x14_2 : Int).toNat _ _ _ y228 t222 u1_ d_ cur _ HRW.out HC231.out HCUR.out HFX.out.2 (Kd.R_reads' HO_12.out).2.2 (Kd.R_reads' HO_12.out).2.1 A48.out).mono ?_
                   rintro e w52 ⟨rfl, hg, hc⟩
                   have n0_ := Aside0.mk (HSPL.out w52 u1_ (by rw [HDU.out]; exact HFX.out.1) hc)
                   have n1_ := Aside0.mk (Kd.R_grown HO_12.out hg (fun k_ hk_ => hk_.1))
                   have n2_ := Aside0.mk (Kd.R_grown HO_13.out hg (fun k_ hk_ => hk_.1))
                   have n3_ := Aside0.mk (grown_below HB.out hg HGA.out.1)
                   clear HO_11 HO_12 HO_13 HB hg hc
                   have HO_11 := n0_
                   have HO_12 := n1_
                   have HO_13 := n2_
                   have HB := n3_
                   clear n0_ n1_ n2_ n3_
                   obtain ⟨hx50_0, hf50_0⟩ := Kd.R_celln 0 HO_13.out (x14_2 : Int) (of_decide_eq_true am_) (of_decide_eq_true am_)
                   have HP := Kd.R_putg HO_13.out (x14_2 : Int) d_
                   have HP_ := Aside0.mk HP.1
                   clear HP
                   go_wp2
                   (try simp only [← hl13_2])
                   (try simp only [← hl11_2])
                   go_roundg k2
                   case measure => have := HJ2.out; have := HK2.out; omega
                   case rel =>
                    refine ⟨_, _, _, rfl, H', ⟨by have := HJ2.out; have := HK2.out; omega⟩, ⟨?_⟩, ⟨?_⟩, ⟨?_⟩, ⟨below_set HB.out HGA.out.2⟩⟩
                    ·
                     (try simp only [hl13_2, hl11_2]); exact Kd.R_far HO_11.out (fun k_ hk_ e_ => hk_.2 (by rw [e_]; rfl)) _
                    ·
                     (try simp only [hl13_2, hl11_2]); exact Kd.R_far HO_12.out (fun k_ hk_ e_ => hk_.2 (by rw [e_]; rfl)) _
                    ·
                     (try simp only [hl13_2, hl11_2]); rw [Ny233.out]; exact HP_.out
                  ·
                   rw [if_neg c49] at H
                   exact absurd H (by simp)
                 ·
                  rw [if_neg c47] at H
                  exact absurd H (by simp)
                ·
                 rw [if_neg c46] at H
                 exact absurd H (by simp)
               ·
                rw [if_neg c45] at H
                exact absurd H (by simp)
              ·
               rw [if_neg c43] at H
               have c43b0 : decide (0 ≤ x14_2) = false := decide_eq_false c43
               clear c43
               replace H := Option.bind_eq_some_iff.mp H
               obtain ⟨t234, A550, H⟩ := H
               replace H : ((limb_Shift.f k2 x11_2 (wrap64 (-t212))).bind fun t237 => (some (t234, t237, 0))) = some (r1, r2, r3) := H
               have A55 := Aside0.mk A550
               clear A550
               replace H := Option.bind_eq_some_iff.mp H
               obtain ⟨t237, A560, H⟩ := H
               replace H : (some (t234, t237, 0)) = some (r1, r2, r3) := H
               have A56 := Aside0.mk A560
               clear A560
               simp only [Option.some.injEq, Prod.mk.injEq] at H
               obtain ⟨rfl, rfl, rfl⟩ := H
               go_wp2_with (first | ((with_reducible refine gate_callee (f := 65) rfl ?_); refine goesL_ (some 96) rfl rfl Try.func65 (by kernel_rfl) rfl #[.slice Ao42 x13_2.length co42] rfl mt_ ?_; (with_reducible refine (limb_Trim.calls k2 _ _ x13_2 t234 _ ?side1 ?side2 A55.out).mono ?_); (case side1 => exact cc_ (Kd.R_reads' HO_13.out).2.2); (case side2 => exact (Kd.R_reads' HO_13.out).2.1); rintro e w57 ⟨v235, rfl, ho0, hb⟩; refine ⟨_, rfl, ?_⟩; have n0_ := Aside0.mk (Kd.R_elder' (rR_ HO_11) (Kd.R_base ho0) hb); have n1_ := Aside0.mk (Kd.R_elder' (rR_ HO_12) (Kd.R_base ho0) hb); have n2_ := Aside0.mk (Kd.R_elder' (rR_ HO_13) (Kd.R_base ho0) hb); have n3_ := Aside0.mk (Kd.R_lower (Kd.R_new' (Kd.R_new' (Kd.R_new' ho0 (Kd.R_lt (rR_ HO_11))) (Kd.R_lt (rR_ HO_12))) (Kd.R_lt (rR_ HO_13))) (below_size (bb_ HB))); have n4_ := Aside0.mk (below_step (bb_ HB) hb); clear HO_11; clear HO_12; clear HO_13; clear HB; have HO_11 := n0_; have HO_12 := n1_; have HO_13 := n2_; have HO236 := n3_; have HB := n4_; clear n0_ n1_ n2_ n3_ n4_; (try clear hb); (try clear hb2); (try clear hk); (try clear hi); (try clear ho0)) | ((with_reducible refine gate_callee (f := 67) rfl ?_); refine goesL_ (some 100) rfl rfl Try.func67 (by kernel_rfl) rfl #[.slice Ao38 x11_2.length co38, .int .i64 (wrap64 (-t212))] rfl mt_ ?_; (with_reducible refine (limb_Shift.calls k2 _ _ x11_2 (wrap64 (-t212)) t237 _ ?side1 ?side2 A56.out).mono ?_); (case side1 => exact cc_ (Kd.R_reads' HO_11.out).2.2); (case side2 => exact (Kd.R_reads' HO_11.out).2.1); rintro e w58 ⟨v238, rfl, ho0, hb⟩; refine ⟨_, rfl, ?_⟩; have n0_ := Aside0.mk (Kd.R_elder' (rR_ HO_11) (Kd.R_base ho0) hb); have n1_ := Aside0.mk (Kd.R_elder' (rR_ HO_12) (Kd.R_base ho0) hb); have n2_ := Aside0.mk (Kd.R_elder' (rR_ HO_13) (Kd.R_base ho0) hb); have n3_ := Aside0.mk (Kd.R_elder' (rR_ HO236) (Kd.R_base ho0) hb); have n4_ := Aside0.mk (Kd.R_lower (Kd.R_new' (Kd.R_new' (Kd.R_new' (Kd.R_new' ho0 (Kd.R_lt (rR_ HO_11))) (Kd.R_lt (rR_ HO_12))) (Kd.R_lt (rR_ HO_13))) (Kd.R_lt (rR_ HO236))) (below_size (bb_ HB))); have n5_ := Aside0.mk (below_step (bb_ HB) hb); clear HO_11; clear HO_12; clear HO_13; clear HO236; clear HB; have HO_11 := n0_; have HO_12 := n1_; have HO_13 := n2_; have HO236 := n3_; have HO239 := n4_; have HB := n5_; clear n0_ n1_ n2_ n3_ n4_ n5_; (try clear hb); (try clear hb2); (try clear hk); (try clear hi); (try clear ho0)))
               go_ret3
               exact ⟨_, _, by first | rfl | (simp [errW_none, errW_some] <;> rfl) | (simp only [← hji20, ← hji27]; first | rfl | (simp [errW_none, errW_some] <;> rfl)) | (simp [*, errW_none, errW_some] <;> rfl), by (with_reducible repeat (first | apply Kd.R_alloc | apply Kd.R_drewN | apply Kd.R_drew)); exact Kd.R_mono HO236.out (fun _ hk => hk.2), by (with_reducible repeat (first | apply Kd.R_alloc | apply Kd.R_drewN | apply Kd.R_drew)); exact Kd.R_mono HO239.out (fun _ hk => hk.2), by repeat (first | (with_reducible first | exact HB.out | apply below_alloc | apply pw_below_drewN | apply below_drew1) | exact HB.out)⟩
           ·
            rw [if_neg c29] at H
            exact absurd H (by simp)
          ·
           rw [if_neg c28] at H
           exact absurd H (by simp)
         ·
          rw [if_neg c25] at H
          exact absurd H (by simp)
        ·
         rw [if_neg c22] at H
         exact absurd H (by simp)
       ·
        rw [if_neg c21] at H
        exact absurd H (by simp)

/-! ### syzygyref01_Same: function 75 -/
def syzygyref01_Same.l0 : Nat → List Int → List Int → Int → Option (Bool)
 | 0, _, _, _ => none
 | k + 1, x0, x1, x5 => if x5 < (x0.length : Int) then (if 0 ≤ x5 then (if x5 < (x1.length : Int) then (if (rd x0 x5) = (rd x1 x5) then (syzygyref01_Same.l0 k x0 x1 (wrap64 (x5 + 1))) else (some false)) else (none)) else (none)) else (some true)
def syzygyref01_Same.f (k : Nat) (l0 : List Int) (l1 : List Int) : Option (Bool) := if (l0.length : Int) = (l1.length : Int) then (syzygyref01_Same.l0 k l0 l1 0) else (some false)
theorem syzygyref01_Same.mono_l : ∀ k, (∀ y0 y1 y2, LeO (syzygyref01_Same.l0 k y0 y1 y2) (syzygyref01_Same.l0 (k + 1) y0 y1 y2))
 | 0 => fun _ _ _ r h => by simp [syzygyref01_Same.l0] at h
 | k + 1 => by
  have ih0 := syzygyref01_Same.mono_l k
  ·
   intro y0 y1 y2
   unfold syzygyref01_Same.l0
   repeat' first
   | (with_reducible exact ih0 _ _ _)
   | (with_reducible exact LeO.refl _)
   | (with_reducible exact LeO.none _)
   | (with_reducible refine LeO.ite ?_ ?_)
   | (with_reducible refine LeO.bind ?_ (fun _ => ?_))
theorem syzygyref01_Same.mono : ∀ a0 a1 k, LeO (syzygyref01_Same.f k a0 a1) (syzygyref01_Same.f (k + 1) a0 a1) := by
 intro a0 a1 k
 have ih0 := syzygyref01_Same.mono_l k
 unfold syzygyref01_Same.f
 repeat' first
   | (with_reducible exact ih0 _ _ _)
   | (with_reducible exact LeO.refl _)
   | (with_reducible exact LeO.none _)
   | (with_reducible refine LeO.ite ?_ ?_)
   | (with_reducible refine LeO.bind ?_ (fun _ => ?_))
set_option maxHeartbeats 8000000 in
set_option maxRecDepth 100000 in
theorem syzygyref01_Same.calls (k : Nat) (A0 : Option Addr) (c0 : Nat) (l0 : List Int) (A1 : Option Addr) (c1 : Nat) (l1 : List Int) (r : Bool) (w : World) (hr0 : Kd.C (Kd.int .u64) w A0 l0.length l0) (hc0 : l0.length ≤ c0) (hr1 : Kd.C (Kd.int .u64) w A1 l1.length l1) (hc1 : l1.length ≤ c1) (h : syzygyref01_Same.f k l0 l1 = some r) :
  Calls Try.prog 75 #[.slice A0 l0.length c0, .slice A1 l1.length c1] w fun e w' => e = .returned (.bool r) ∧ Drawn0 w w' := by
 have HR0 := Aside0.mk hr0
 have HC0 := Aside0.mk hc0
 clear hr0 hc0
 have HR1 := Aside0.mk hr1
 have HC1 := Aside0.mk hc1
 clear hr1 hc1
 have H : (if (l0.length : Int) = (l1.length : Int) then (syzygyref01_Same.l0 k l0 l1 0) else (some false)) = some r := h
 clear h
 by_cases c3 : (l0.length : Int) = (l1.length : Int)
 ·
  rw [if_pos c3] at H
  have c3b0 : ((l0.length : Int) == (l1.length : Int)) = true := beq_iff_eq.mpr c3
  have c3b1 : ((l0.length : Int) != (l1.length : Int)) = false := bne_eq_false_iff_eq.mpr c3
  have c3b2 : (l0.length == l1.length) = true := by first | simpa using c3 | (simp at c3 ⊢; omega)
  clear c3
  have H' := Aside0.mk H
  clear H
  go_enter Try.func75, Try.ntmps75
  go_wp2
  repeat (go_quiet (fail); try go_wp2)
  go_loopg [5] k (fun kq v5 w' => ∃ (x5_1 : Int), v5 = .int .i64 x5_1 ∧ Aside0 (syzygyref01_Same.l0 kq l0 l1 x5_1 = some r) ∧ Aside0 (kq ≤ k) ∧ Drawn0 w w')
  case atStart => exact ⟨(0), sd_, H', ⟨Nat.le_refl _⟩, by repeat (first | exact Drawn0.refl _ | apply Drawn0.step)⟩
  case round =>
   clear H'
   try clear c1
   try clear p2
   try clear c3
   try clear c3b0
   try clear c3b1
   try clear c3b2
   obtain ⟨x5_1, rfl, HA, HK1, ⟨m1, rfl⟩⟩ := hrel
   cases gk with
   | zero => exact absurd HA.out (by simp [syzygyref01_Same.l0])
   | succ k1 =>
    have H := HA.out
    clear HA
    simp only [syzygyref01_Same.l0] at H
    by_cases c4 : x5_1 < (l0.length : Int)
    ·
     rw [if_pos c4] at H
     have c4b0 : decide (x5_1 < (l0.length : Int)) = true := decide_eq_true c4
     clear c4
     by_cases c5 : 0 ≤ x5_1
     ·
      rw [if_pos c5] at H
      have c5b0 : decide (0 ≤ x5_1) = true := decide_eq_true c5
      clear c5
      by_cases c6 : x5_1 < (l1.length : Int)
      ·
       rw [if_pos c6] at H
       have c6b0 : decide (x5_1 < (l1.length : Int)) = true := decide_eq_true c6
       clear c6
       by_cases c7 : (rd l0 x5_1) = (rd l1 x5_1)
       ·
        rw [if_pos c7] at H
        have c7b0 : ((rd l0 x5_1) == (rd l1 x5_1)) = true := beq_iff_eq.mpr c7
        have c7b1 : ((rd l0 x5_1) != (rd l1 x5_1)) = false := bne_eq_false_iff_eq.mpr c7
        clear c7
        have H' := Aside0.mk H
        clear H
        have p240 : 0 ≤ (x5_1 : Int) := of_decide_eq_true am_
        have q240 : x5_1 < (l0.length : Int) := of_decide_eq_true am_
        obtain ⟨ad240, e240, hx240_0⟩ := Kd.at_int HR0.out x5_1 p240 q240
        cases e240
        replace p240 := eq_true p240
        replace q240 := eq_true q240
        have p241 : 0 ≤ (x5_1 : Int) := of_decide_eq_true am_
        have q241 : x5_1 < (l1.length : Int) := of_decide_eq_true am_
        obtain ⟨ad241, e241, hx241_0⟩ := Kd.at_int HR1.out x5_1 p241 q241
        cases e241
        replace p241 := eq_true p241
        replace q241 := eq_true q241
        go_wp2
        repeat (go_quiet (fail); try go_wp2)
        go_roundg k1
        case measure => have := HK1.out; omega
        case rel => exact ⟨(wrap64 (x5_1 + 1)), sd_, H', ⟨by have := HK1.out; omega⟩, by repeat (first | exact Drawn0.refl _ | apply Drawn0.step)⟩
       ·
        rw [if_neg c7] at H
        have c7b0 : ((rd l0 x5_1) == (rd l1 x5_1)) = false := beq_eq_false_iff_ne.mpr c7
        have c7b1 : ((rd l0 x5_1) != (rd l1 x5_1)) = true := bne_iff_ne.mpr c7
        obtain rfl := Option.some.inj H
        have p240 : 0 ≤ (x5_1 : Int) := of_decide_eq_true am_
        have q240 : x5_1 < (l0.length : Int) := of_decide_eq_true am_
        obtain ⟨ad240, e240, hx240_0⟩ := Kd.at_int HR0.out x5_1 p240 q240
        cases e240
        replace p240 := eq_true p240
        replace q240 := eq_true q240
        have p241 : 0 ≤ (x5_1 : Int) := of_decide_eq_true am_
        have q241 : x5_1 < (l1.length : Int) := of_decide_eq_true am_
        obtain ⟨ad241, e241, hx241_0⟩ := Kd.at_int HR1.out x5_1 p241 q241
        cases e241
        replace p241 := eq_true p241
        replace q241 := eq_true q241
        go_wp2
        repeat (go_quiet (fail); try go_wp2)
        go_ret
        exact ⟨by first | rfl | (simp; done) | (simp [*]; done), by repeat (first | exact Drawn0.refl _ | apply Drawn0.step)⟩
      ·
       rw [if_neg c6] at H
       exact absurd H (by simp)
     ·
      rw [if_neg c5] at H
      exact absurd H (by simp)
    ·
     rw [if_neg c4] at H
     have c4b0 : decide (x5_1 < (l0.length : Int)) = false := decide_eq_false c4
     clear c4
     obtain rfl := Option.some.inj H
     go_wp2
     repeat (go_quiet (fail); try go_wp2)
     go_ret
     exact ⟨by first | rfl | (simp; done) | (simp [*]; done), by repeat (first | exact Drawn0.refl _ | apply Drawn0.step)⟩
 ·
  rw [if_neg c3] at H
  have c3b0 : ((l0.length : Int) == (l1.length : Int)) = false := beq_eq_false_iff_ne.mpr c3
  have c3b1 : ((l0.length : Int) != (l1.length : Int)) = true := bne_iff_ne.mpr c3
  have c3b2 : (l0.length == l1.length) = false := by first | simpa using c3 | (simp at c3 ⊢; omega)
  obtain rfl := Option.some.inj H
  go_enter Try.func75, Try.ntmps75
  go_wp2
  repeat (go_quiet (fail); try go_wp2)
  go_ret
  exact ⟨by first | rfl | (simp; done) | (simp [*]; done), by repeat (first | exact Drawn0.refl _ | apply Drawn0.step)⟩

/-! ### syzygyref02_Same: function 33 -/
def syzygyref02_Same.f (k : Nat) (l0 : List Int) (l1 : List Int) : Option (Bool) := (syzygyref01_Same.f k l0 l1).bind fun t242 => (some t242)
theorem syzygyref02_Same.mono : ∀ a0 a1 k, LeO (syzygyref02_Same.f k a0 a1) (syzygyref02_Same.f (k + 1) a0 a1) := by
 intro a0 a1 k
 unfold syzygyref02_Same.f
 repeat' first
   | (with_reducible exact syzygyref01_Same.mono _ _ _)
   | (with_reducible exact LeO.refl _)
   | (with_reducible exact LeO.none _)
   | (with_reducible refine LeO.ite ?_ ?_)
   | (with_reducible refine LeO.bind ?_ (fun _ => ?_))
set_option maxHeartbeats 8000000 in
set_option maxRecDepth 100000 in
theorem syzygyref02_Same.calls (k : Nat) (A0 : Option Addr) (c0 : Nat) (l0 : List Int) (A1 : Option Addr) (c1 : Nat) (l1 : List Int) (r : Bool) (w : World) (hr0 : Kd.C (Kd.int .u64) w A0 l0.length l0) (hc0 : l0.length ≤ c0) (hr1 : Kd.C (Kd.int .u64) w A1 l1.length l1) (hc1 : l1.length ≤ c1) (h : syzygyref02_Same.f k l0 l1 = some r) :
  Calls Try.prog 33 #[.slice A0 l0.length c0, .slice A1 l1.length c1] w fun e w' => e = .returned (.bool r) ∧ Drawn0 w w' := by
 have HR0 := Aside0.mk hr0
 have HC0 := Aside0.mk hc0
 clear hr0 hc0
 have HR1 := Aside0.mk hr1
 have HC1 := Aside0.mk hc1
 clear hr1 hc1
 have H : ((syzygyref01_Same.f k l0 l1).bind fun t242 => (some t242)) = some r := h
 clear h
 replace H := Option.bind_eq_some_iff.mp H
 obtain ⟨t242, A30, H⟩ := H
 replace H : (some t242) = some r := H
 have A3 := Aside0.mk A30
 clear A30
 obtain rfl := Option.some.inj H
 go_enter Try.func33, Try.ntmps33
 go_wp2_with (first | ((with_reducible refine gate_callee (f := 75) rfl ?_); refine goesL_ (some 7) rfl rfl Try.func75 (by kernel_rfl) rfl #[.slice A0 l0.length c0, .slice A1 l1.length c1] rfl mt_ ?_; (with_reducible refine (syzygyref01_Same.calls k _ _ l0 _ _ l1 t242 _ ?side1 ?side2 ?side3 ?side4 A3.out).mono ?_); (case side1 => exact cc_ HR0.out); (case side2 => exact HC0.out); (case side3 => exact cc_ HR1.out); (case side4 => exact HC1.out); rintro e w' ⟨rfl, ⟨nd, rfl⟩⟩; refine ⟨_, rfl, ?_⟩))
 go_ret
 exact ⟨by first | rfl | (simp; done) | (simp [*]; done), by repeat (first | exact Drawn0.refl _ | apply Drawn0.step)⟩

/-! ### syzygylaw03_shown: function 28 -/
def syzygylaw03_shown.f (k : Nat)  : Option (Bool) := (quot_Div.f k (([7] : List Int)) (([2] : List Int))).bind fun bt249 => (if bt249.2.2 = 0 then ((syzygyref02_Same.f k bt249.1 (([3] : List Int))).bind fun t259 => (if t259 = true then ((syzygyref02_Same.f k bt249.2.1 (([1] : List Int))).bind fun t263 => (some t263)) else (some false))) else (some false))
theorem syzygylaw03_shown.mono : ∀ k, LeO (syzygylaw03_shown.f k ) (syzygylaw03_shown.f (k + 1) ) := by
 intro  k
 unfold syzygylaw03_shown.f
 repeat' first
   | (with_reducible exact quot_Div.mono _ _ _)
   | (with_reducible exact syzygyref02_Same.mono _ _ _)
   | (with_reducible exact LeO.refl _)
   | (with_reducible exact LeO.none _)
   | (with_reducible refine LeO.ite ?_ ?_)
   | (with_reducible refine LeO.bind ?_ (fun _ => ?_))
set_option maxHeartbeats 8000000 in
set_option maxRecDepth 100000 in
theorem syzygylaw03_shown.calls (k : Nat)  (r : Bool) (w : World) (h : syzygylaw03_shown.f k  = some r) :
  Calls Try.prog 28 #[] w fun e w' => e = .returned (.bool r) ∧ Below w.heap.size w w' := by
 have HB := Aside0.mk (Below.refl w.heap.size w)
 have H : ((quot_Div.f k (([7] : List Int)) (([2] : List Int))).bind fun bt249 => (if bt249.2.2 = 0 then ((syzygyref02_Same.f k bt249.1 (([3] : List Int))).bind fun t259 => (if t259 = true then ((syzygyref02_Same.f k bt249.2.1 (([1] : List Int))).bind fun t263 => (some t263)) else (some false))) else (some false))) = some r := h
 clear h
 obtain ⟨y243, hy243⟩ : ∃ y_ : List Int, y_ = (([7] : List Int)) := ⟨_, rfl⟩
 replace H : ((quot_Div.f k y243 (([2] : List Int))).bind fun bt249 => (if bt249.2.2 = 0 then ((syzygyref02_Same.f k bt249.1 (([3] : List Int))).bind fun t259 => (if t259 = true then ((syzygyref02_Same.f k bt249.2.1 (([1] : List Int))).bind fun t263 => (some t263)) else (some false))) else (some false))) = some r := by first | (rw [hy243]; with_reducible exact H) | (have H2_ := (Option.bind_some _ _).symm.trans H; rw [hy243]; with_reducible exact H2_) | (have H2_ := (Option.bind_some _ _).symm.trans H; with_reducible exact H2_) | with_reducible exact H | (rw [hy243]; exact H) | exact H
 have Ny243 := Aside0.mk hy243
 clear hy243
 obtain ⟨y246, hy246⟩ : ∃ y_ : List Int, y_ = (([2] : List Int)) := ⟨_, rfl⟩
 replace H : ((quot_Div.f k y243 y246).bind fun bt249 => (if bt249.2.2 = 0 then ((syzygyref02_Same.f k bt249.1 (([3] : List Int))).bind fun t259 => (if t259 = true then ((syzygyref02_Same.f k bt249.2.1 (([1] : List Int))).bind fun t263 => (some t263)) else (some false))) else (some false))) = some r := by first | (rw [hy246]; with_reducible exact H) | (have H2_ := (Option.bind_some _ _).symm.trans H; rw [hy246]; with_reducible exact H2_) | (have H2_ := (Option.bind_some _ _).symm.trans H; with_reducible exact H2_) | with_reducible exact H | (rw [hy246]; exact H) | exact H
 have Ny246 := Aside0.mk hy246
 clear hy246
 replace H := Option.bind_eq_some_iff.mp H
 obtain ⟨⟨t249, t250, t251⟩, A10, H⟩ := H
 replace H : (if t251 = 0 then ((syzygyref02_Same.f k t249 (([3] : List Int))).bind fun t259 => (if t259 = true then ((syzygyref02_Same.f k t250 (([1] : List Int))).bind fun t263 => (some t263)) else (some false))) else (some false)) = some r := H
 have A1 := Aside0.mk A10
 clear A10
 by_cases c2 : t251 = 0
 ·
  rw [if_pos c2] at H
  have c2b0 : (t251 == 0) = true := beq_iff_eq.mpr c2
  have c2b1 : (t251 != 0) = false := bne_eq_false_iff_eq.mpr c2
  clear c2
  obtain ⟨y256, hy256⟩ : ∃ y_ : List Int, y_ = (([3] : List Int)) := ⟨_, rfl⟩
  replace H : ((syzygyref02_Same.f k t249 y256).bind fun t259 => (if t259 = true then ((syzygyref02_Same.f k t250 (([1] : List Int))).bind fun t263 => (some t263)) else (some false))) = some r := by first | (rw [hy256]; with_reducible exact H) | (have H2_ := (Option.bind_some _ _).symm.trans H; rw [hy256]; with_reducible exact H2_) | (have H2_ := (Option.bind_some _ _).symm.trans H; with_reducible exact H2_) | with_reducible exact H | (rw [hy256]; exact H) | exact H
  have Ny256 := Aside0.mk hy256
  clear hy256
  replace H := Option.bind_eq_some_iff.mp H
  obtain ⟨t259, A30, H⟩ := H
  replace H : (if t259 = true then ((syzygyref02_Same.f k t250 (([1] : List Int))).bind fun t263 => (some t263)) else (some false)) = some r := H
  have A3 := Aside0.mk A30
  clear A30
  by_cases c4 : t259 = true
  ·
   subst c4
   have H1 : ((syzygyref02_Same.f k t250 (([1] : List Int))).bind fun t263 => (some t263)) = some r := by rw [if_pos rfl] at H; exact H
   clear H
   have H := H1
   clear H1
   obtain ⟨y260, hy260⟩ : ∃ y_ : List Int, y_ = (([1] : List Int)) := ⟨_, rfl⟩
   replace H : ((syzygyref02_Same.f k t250 y260).bind fun t263 => (some t263)) = some r := by first | (rw [hy260]; with_reducible exact H) | (have H2_ := (Option.bind_some _ _).symm.trans H; rw [hy260]; with_reducible exact H2_) | (have H2_ := (Option.bind_some _ _).symm.trans H; with_reducible exact H2_) | with_reducible exact H | (rw [hy260]; exact H) | exact H
   have Ny260 := Aside0.mk hy260
   clear hy260
   replace H := Option.bind_eq_some_iff.mp H
   obtain ⟨t263, A50, H⟩ := H
   replace H : (some t263) = some r := H
   have A5 := Aside0.mk A50
   clear A50
   obtain rfl := Option.some.inj H
   go_enter Try.func28, Try.ntmps28
   go_wp2_with (first | ((with_reducible refine gate_dst (N := 5) rfl ?_); (try (refine gate_guard (by rfl) ?_; dsimp only)); refine Kd.R_lit (Kd.int .u64) _ 50 ?hg (N := 5) ?hd (xs := ([7] : List Int)) (inner := [.int .u64 7]) (ok := fun _ => True) (okp := fun _ => True) ?hr ?hp (fun _ hk => hk) trivial (Below.refl _ _) (Nat.le_refl _) (by simp) ?_; (case hd => rfl); (case hg => rfl); (case hr => exact gs_); (case hp => exact (Reps.one (show Kd.M (Kd.int .u64) _ _ _ 7 [.int .u64 7] from rfl) (Reps.none _ _))); intro v244 w6 ho7 hb hg_ hnew_; clear hg_ hnew_; (first | rw [← Ny243.out] at ho7 | (simp only [Int.reduceToNat] at ho7; rw [← Ny243.out] at ho7)); have n0_ := Aside0.mk (Kd.R_lower ho7 (below_size (bb_ HB))); have n1_ := Aside0.mk (below_step (bb_ HB) hb); clear HB; have HO245 := n0_; have HB := n1_; clear n0_ n1_; clear hb ho7) | ((with_reducible refine gate_dst (N := 6) rfl ?_); (try (refine gate_guard (by rfl) ?_; dsimp only)); refine Kd.R_lit (Kd.int .u64) _ 50 ?hg (N := 6) ?hd (xs := ([2] : List Int)) (inner := [.int .u64 2]) (ok := fun _ => True) (okp := fun _ => True) ?hr ?hp (fun _ hk => hk) trivial (Below.refl _ _) (Nat.le_refl _) (by simp) ?_; (case hd => rfl); (case hg => rfl); (case hr => exact gs_); (case hp => exact (Reps.one (show Kd.M (Kd.int .u64) _ _ _ 2 [.int .u64 2] from rfl) (Reps.none _ _))); intro v247 w8 ho9 hb hg_ hnew_; clear hg_ hnew_; (first | rw [← Ny246.out] at ho9 | (simp only [Int.reduceToNat] at ho9; rw [← Ny246.out] at ho9)); have n0_ := Aside0.mk (Kd.R_elder' (rR_ HO245) (Kd.R_base ho9) hb); have n1_ := Aside0.mk (Kd.R_lower (Kd.R_new' ho9 (Kd.R_lt (rR_ HO245))) (below_size (bb_ HB))); have n2_ := Aside0.mk (below_step (bb_ HB) hb); clear HO245; clear HB; have HO245 := n0_; have HO248 := n1_; have HB := n2_; clear n0_ n1_ n2_; clear hb ho9; obtain ⟨Ao10, co10, eo10⟩ := Kd.R_slice HO245.out; subst eo10; obtain ⟨Ao11, co11, eo11⟩ := Kd.R_slice HO248.out; subst eo11) | ((with_reducible refine gate_callee (f := 29) rfl ?_); refine goesL_ (some 7) rfl rfl Try.func29 (by kernel_rfl) rfl #[.slice Ao10 y243.length co10, .slice Ao11 y246.length co11] rfl mt_ ?_; (with_reducible refine (quot_Div.calls k _ _ y243 _ _ y246 t249 t250 t251 _ ?side1 ?side2 ?side3 ?side4 A1.out).mono ?_); (case side1 => exact cc_ (Kd.R_reads' HO245.out).2.2); (case side2 => exact (Kd.R_reads' HO245.out).2.1); (case side3 => exact cc_ (Kd.R_reads' HO248.out).2.2); (case side4 => exact (Kd.R_reads' HO248.out).2.1); rintro e w12 ⟨v252, v254, rfl, ho0, ho1, hb⟩; refine ⟨_, rfl, ?_⟩; have n0_ := Aside0.mk (Kd.R_mono (Kd.R_told (Kd.R_told (Kd.R_old (rR_ HO245) hb) (Kd.R_base ho0)) (Kd.R_base ho1)) (fun _ h_ => h_.1)); have n1_ := Aside0.mk (Kd.R_mono (Kd.R_told (Kd.R_told (Kd.R_old (rR_ HO248) hb) (Kd.R_base ho0)) (Kd.R_base ho1)) (fun _ h_ => h_.1)); have n2_ := Aside0.mk (Kd.R_lower (Kd.R_new' (Kd.R_new' ho0 (Kd.R_lt (rR_ HO245))) (Kd.R_lt (rR_ HO248))) (below_size (bb_ HB))); have n3_ := Aside0.mk (Kd.R_lower (Kd.R_new' (Kd.R_new' ho1 (Kd.R_lt (rR_ HO245))) (Kd.R_lt (rR_ HO248))) (below_size (bb_ HB))); have n4_ := Aside0.mk (below_step (bb_ HB) hb); clear HO245; clear HO248; clear HB; have HO245 := n0_; have HO248 := n1_; have HO253 := n2_; have HO255 := n3_; have HB := n4_; clear n0_ n1_ n2_ n3_ n4_; (try clear hb); (try clear hb2); (try clear hk); (try clear hi); (try clear ho0); (try clear ho1)) | ((with_reducible refine gate_dst (N := 15) rfl ?_); (try (refine gate_guard (by rfl) ?_; dsimp only)); refine Kd.R_lit (Kd.int .u64) _ 50 ?hg (N := 15) ?hd (xs := ([3] : List Int)) (inner := [.int .u64 3]) (ok := fun _ => True) (okp := fun _ => True) ?hr ?hp (fun _ hk => hk) trivial (Below.refl _ _) (Nat.le_refl _) (by simp) ?_; (case hd => rfl); (case hg => rfl); (case hr => exact gs_); (case hp => exact (Reps.one (show Kd.M (Kd.int .u64) _ _ _ 3 [.int .u64 3] from rfl) (Reps.none _ _))); intro v257 w13 ho14 hb hg_ hnew_; clear hg_ hnew_; (first | rw [← Ny256.out] at ho14 | (simp only [Int.reduceToNat] at ho14; rw [← Ny256.out] at ho14)); have n0_ := Aside0.mk (Kd.R_elder' (rR_ HO245) (Kd.R_base ho14) hb); have n1_ := Aside0.mk (Kd.R_elder' (rR_ HO248) (Kd.R_base ho14) hb); have n2_ := Aside0.mk (Kd.R_elder' (rR_ HO253) (Kd.R_base ho14) hb); have n3_ := Aside0.mk (Kd.R_elder' (rR_ HO255) (Kd.R_base ho14) hb); have n4_ := Aside0.mk (Kd.R_lower (Kd.R_new' (Kd.R_new' (Kd.R_new' (Kd.R_new' ho14 (Kd.R_lt (rR_ HO245))) (Kd.R_lt (rR_ HO248))) (Kd.R_lt (rR_ HO253))) (Kd.R_lt (rR_ HO255))) (below_size (bb_ HB))); have n5_ := Aside0.mk (below_step (bb_ HB) hb); clear HO245; clear HO248; clear HO253; clear HO255; clear HB; have HO245 := n0_; have HO248 := n1_; have HO253 := n2_; have HO255 := n3_; have HO258 := n4_; have HB := n5_; clear n0_ n1_ n2_ n3_ n4_ n5_; clear hb ho14; obtain ⟨Ao15, co15, eo15⟩ := Kd.R_slice HO253.out; subst eo15; obtain ⟨Ao16, co16, eo16⟩ := Kd.R_slice HO258.out; subst eo16) | ((with_reducible refine gate_dst (N := 16) rfl ?_); (try (refine gate_guard (by rfl) ?_; dsimp only)); refine gate_guard (by first | rfl | kernel_rfl) ?_; dsimp only; (with_reducible refine gate_callee (f := 33) rfl ?_); refine goesL_ (some 16) rfl rfl Try.func33 (by kernel_rfl) rfl #[.slice Ao15 t249.length co15, .slice Ao16 y256.length co16] rfl mt_ ?_; (with_reducible refine (syzygyref02_Same.calls k _ _ t249 _ _ y256 true _ ?side1 ?side2 ?side3 ?side4 A3.out).mono ?_); (case side1 => exact cc_ (Kd.R_reads' HO253.out).2.2); (case side2 => exact (Kd.R_reads' HO253.out).2.1); (case side3 => exact cc_ (Kd.R_reads' HO258.out).2.2); (case side4 => exact (Kd.R_reads' HO258.out).2.1); rintro e w' ⟨rfl, ⟨nd, rfl⟩⟩; refine ⟨_, rfl, ?_⟩) | ((with_reducible refine gate_dst (N := 20) rfl ?_); (try (refine gate_guard (by rfl) ?_; dsimp only)); refine Kd.R_lit (Kd.int .u64) _ 50 ?hg (N := 20) ?hd (xs := ([1] : List Int)) (inner := [.int .u64 1]) (ok := fun _ => True) (okp := fun _ => True) ?hr ?hp (fun _ hk => hk) trivial (Below.refl _ _) (Nat.le_refl _) (by simp) ?_; (case hd => rfl); (case hg => rfl); (case hr => exact gs_); (case hp => exact (Reps.one (show Kd.M (Kd.int .u64) _ _ _ 1 [.int .u64 1] from rfl) (Reps.none _ _))); intro v261 w17 ho18 hb hg_ hnew_; clear hg_ hnew_; (first | rw [← Ny260.out] at ho18 | (simp only [Int.reduceToNat] at ho18; rw [← Ny260.out] at ho18)); have n0_ := Aside0.mk (Kd.R_elder' (rR_ HO245) (Kd.R_base ho18) hb); have n1_ := Aside0.mk (Kd.R_elder' (rR_ HO248) (Kd.R_base ho18) hb); have n2_ := Aside0.mk (Kd.R_elder' (rR_ HO253) (Kd.R_base ho18) hb); have n3_ := Aside0.mk (Kd.R_elder' (rR_ HO255) (Kd.R_base ho18) hb); have n4_ := Aside0.mk (Kd.R_elder' (rR_ HO258) (Kd.R_base ho18) hb); have n5_ := Aside0.mk (Kd.R_lower (Kd.R_new' (Kd.R_new' (Kd.R_new' (Kd.R_new' (Kd.R_new' ho18 (Kd.R_lt (rR_ HO245))) (Kd.R_lt (rR_ HO248))) (Kd.R_lt (rR_ HO253))) (Kd.R_lt (rR_ HO255))) (Kd.R_lt (rR_ HO258))) (below_size (bb_ HB))); have n6_ := Aside0.mk (below_step (bb_ HB) hb); clear HO245; clear HO248; clear HO253; clear HO255; clear HO258; clear HB; have HO245 := n0_; have HO248 := n1_; have HO253 := n2_; have HO255 := n3_; have HO258 := n4_; have HO262 := n5_; have HB := n6_; clear n0_ n1_ n2_ n3_ n4_ n5_ n6_; clear hb ho18; obtain ⟨Ao19, co19, eo19⟩ := Kd.R_slice HO255.out; subst eo19; obtain ⟨Ao20, co20, eo20⟩ := Kd.R_slice HO262.out; subst eo20) | ((with_reducible refine gate_dst (N := 21) rfl ?_); (try (refine gate_guard (by rfl) ?_; dsimp only)); refine gate_guard (by first | rfl | kernel_rfl) ?_; dsimp only; (with_reducible refine gate_callee (f := 33) rfl ?_); refine goesL_ (some 21) rfl rfl Try.func33 (by kernel_rfl) rfl #[.slice Ao19 t250.length co19, .slice Ao20 y260.length co20] rfl mt_ ?_; (with_reducible refine (syzygyref02_Same.calls k _ _ t250 _ _ y260 t263 _ ?side1 ?side2 ?side3 ?side4 A5.out).mono ?_); (case side1 => exact cc_ (Kd.R_reads' HO255.out).2.2); (case side2 => exact (Kd.R_reads' HO255.out).2.1); (case side3 => exact cc_ (Kd.R_reads' HO262.out).2.2); (case side4 => exact (Kd.R_reads' HO262.out).2.1); rintro e w' ⟨rfl, ⟨nd, rfl⟩⟩; refine ⟨_, rfl, ?_⟩))
   go_ret
   exact ⟨by first | rfl | (simp [errW_none, errW_some] <;> rfl) | (simp [*, errW_none, errW_some] <;> rfl), by repeat (first | (with_reducible first | exact HB.out | apply below_alloc | apply pw_below_drewN | apply below_drew1) | exact HB.out)⟩
  ·
   replace c4 := Bool.eq_false_iff.mpr c4
   subst c4
   have H1 : (some false) = some r := by rw [if_neg (show ¬ (false = true) by decide)] at H; exact H
   clear H
   have H := H1
   clear H1
   obtain rfl := Option.some.inj H
   go_enter Try.func28, Try.ntmps28
   go_wp2_with (first | ((with_reducible refine gate_dst (N := 5) rfl ?_); (try (refine gate_guard (by rfl) ?_; dsimp only)); refine Kd.R_lit (Kd.int .u64) _ 50 ?hg (N := 5) ?hd (xs := ([7] : List Int)) (inner := [.int .u64 7]) (ok := fun _ => True) (okp := fun _ => True) ?hr ?hp (fun _ hk => hk) trivial (Below.refl _ _) (Nat.le_refl _) (by simp) ?_; (case hd => rfl); (case hg => rfl); (case hr => exact gs_); (case hp => exact (Reps.one (show Kd.M (Kd.int .u64) _ _ _ 7 [.int .u64 7] from rfl) (Reps.none _ _))); intro v244 w21 ho22 hb hg_ hnew_; clear hg_ hnew_; (first | rw [← Ny243.out] at ho22 | (simp only [Int.reduceToNat] at ho22; rw [← Ny243.out] at ho22)); have n0_ := Aside0.mk (Kd.R_lower ho22 (below_size (bb_ HB))); have n1_ := Aside0.mk (below_step (bb_ HB) hb); clear HB; have HO245 := n0_; have HB := n1_; clear n0_ n1_; clear hb ho22) | ((with_reducible refine gate_dst (N := 6) rfl ?_); (try (refine gate_guard (by rfl) ?_; dsimp only)); refine Kd.R_lit (Kd.int .u64) _ 50 ?hg (N := 6) ?hd (xs := ([2] : List Int)) (inner := [.int .u64 2]) (ok := fun _ => True) (okp := fun _ => True) ?hr ?hp (fun _ hk => hk) trivial (Below.refl _ _) (Nat.le_refl _) (by simp) ?_; (case hd => rfl); (case hg => rfl); (case hr => exact gs_); (case hp => exact (Reps.one (show Kd.M (Kd.int .u64) _ _ _ 2 [.int .u64 2] from rfl) (Reps.none _ _))); intro v247 w23 ho24 hb hg_ hnew_; clear hg_ hnew_; (first | rw [← Ny246.out] at ho24 | (simp only [Int.reduceToNat] at ho24; rw [← Ny246.out] at ho24)); have n0_ := Aside0.mk (Kd.R_elder' (rR_ HO245) (Kd.R_base ho24) hb); have n1_ := Aside0.mk (Kd.R_lower (Kd.R_new' ho24 (Kd.R_lt (rR_ HO245))) (below_size (bb_ HB))); have n2_ := Aside0.mk (below_step (bb_ HB) hb); clear HO245; clear HB; have HO245 := n0_; have HO248 := n1_; have HB := n2_; clear n0_ n1_ n2_; clear hb ho24; obtain ⟨Ao25, co25, eo25⟩ := Kd.R_slice HO245.out; subst eo25; obtain ⟨Ao26, co26, eo26⟩ := Kd.R_slice HO248.out; subst eo26) | ((with_reducible refine gate_callee (f := 29) rfl ?_); refine goesL_ (some 7) rfl rfl Try.func29 (by kernel_rfl) rfl #[.slice Ao25 y243.length co25, .slice Ao26 y246.length co26] rfl mt_ ?_; (with_reducible refine (quot_Div.calls k _ _ y243 _ _ y246 t249 t250 t251 _ ?side1 ?side2 ?side3 ?side4 A1.out).mono ?_); (case side1 => exact cc_ (Kd.R_reads' HO245.out).2.2); (case side2 => exact (Kd.R_reads' HO245.out).2.1); (case side3 => exact cc_ (Kd.R_reads' HO248.out).2.2); (case side4 => exact (Kd.R_reads' HO248.out).2.1); rintro e w27 ⟨v252, v254, rfl, ho0, ho1, hb⟩; refine ⟨_, rfl, ?_⟩; have n0_ := Aside0.mk (Kd.R_mono (Kd.R_told (Kd.R_told (Kd.R_old (rR_ HO245) hb) (Kd.R_base ho0)) (Kd.R_base ho1)) (fun _ h_ => h_.1)); have n1_ := Aside0.mk (Kd.R_mono (Kd.R_told (Kd.R_told (Kd.R_old (rR_ HO248) hb) (Kd.R_base ho0)) (Kd.R_base ho1)) (fun _ h_ => h_.1)); have n2_ := Aside0.mk (Kd.R_lower (Kd.R_new' (Kd.R_new' ho0 (Kd.R_lt (rR_ HO245))) (Kd.R_lt (rR_ HO248))) (below_size (bb_ HB))); have n3_ := Aside0.mk (Kd.R_lower (Kd.R_new' (Kd.R_new' ho1 (Kd.R_lt (rR_ HO245))) (Kd.R_lt (rR_ HO248))) (below_size (bb_ HB))); have n4_ := Aside0.mk (below_step (bb_ HB) hb); clear HO245; clear HO248; clear HB; have HO245 := n0_; have HO248 := n1_; have HO253 := n2_; have HO255 := n3_; have HB := n4_; clear n0_ n1_ n2_ n3_ n4_; (try clear hb); (try clear hb2); (try clear hk); (try clear hi); (try clear ho0); (try clear ho1)) | ((with_reducible refine gate_dst (N := 15) rfl ?_); (try (refine gate_guard (by rfl) ?_; dsimp only)); refine Kd.R_lit (Kd.int .u64) _ 50 ?hg (N := 15) ?hd (xs := ([3] : List Int)) (inner := [.int .u64 3]) (ok := fun _ => True) (okp := fun _ => True) ?hr ?hp (fun _ hk => hk) trivial (Below.refl _ _) (Nat.le_refl _) (by simp) ?_; (case hd => rfl); (case hg => rfl); (case hr => exact gs_); (case hp => exact (Reps.one (show Kd.M (Kd.int .u64) _ _ _ 3 [.int .u64 3] from rfl) (Reps.none _ _))); intro v257 w28 ho29 hb hg_ hnew_; clear hg_ hnew_; (first | rw [← Ny256.out] at ho29 | (simp only [Int.reduceToNat] at ho29; rw [← Ny256.out] at ho29)); have n0_ := Aside0.mk (Kd.R_elder' (rR_ HO245) (Kd.R_base ho29) hb); have n1_ := Aside0.mk (Kd.R_elder' (rR_ HO248) (Kd.R_base ho29) hb); have n2_ := Aside0.mk (Kd.R_elder' (rR_ HO253) (Kd.R_base ho29) hb); have n3_ := Aside0.mk (Kd.R_elder' (rR_ HO255) (Kd.R_base ho29) hb); have n4_ := Aside0.mk (Kd.R_lower (Kd.R_new' (Kd.R_new' (Kd.R_new' (Kd.R_new' ho29 (Kd.R_lt (rR_ HO245))) (Kd.R_lt (rR_ HO248))) (Kd.R_lt (rR_ HO253))) (Kd.R_lt (rR_ HO255))) (below_size (bb_ HB))); have n5_ := Aside0.mk (below_step (bb_ HB) hb); clear HO245; clear HO248; clear HO253; clear HO255; clear HB; have HO245 := n0_; have HO248 := n1_; have HO253 := n2_; have HO255 := n3_; have HO258 := n4_; have HB := n5_; clear n0_ n1_ n2_ n3_ n4_ n5_; clear hb ho29; obtain ⟨Ao30, co30, eo30⟩ := Kd.R_slice HO253.out; subst eo30; obtain ⟨Ao31, co31, eo31⟩ := Kd.R_slice HO258.out; subst eo31) | ((with_reducible refine gate_dst (N := 16) rfl ?_); (try (refine gate_guard (by rfl) ?_; dsimp only)); refine gate_guard (by first | rfl | kernel_rfl) ?_; dsimp only; (with_reducible refine gate_callee (f := 33) rfl ?_); refine goesL_ (some 16) rfl rfl Try.func33 (by kernel_rfl) rfl #[.slice Ao30 t249.length co30, .slice Ao31 y256.length co31] rfl mt_ ?_; (with_reducible refine (syzygyref02_Same.calls k _ _ t249 _ _ y256 false _ ?side1 ?side2 ?side3 ?side4 A3.out).mono ?_); (case side1 => exact cc_ (Kd.R_reads' HO253.out).2.2); (case side2 => exact (Kd.R_reads' HO253.out).2.1); (case side3 => exact cc_ (Kd.R_reads' HO258.out).2.2); (case side4 => exact (Kd.R_reads' HO258.out).2.1); rintro e w' ⟨rfl, ⟨nd, rfl⟩⟩; refine ⟨_, rfl, ?_⟩))
   go_ret
   exact ⟨by first | rfl | (simp [errW_none, errW_some] <;> rfl) | (simp [*, errW_none, errW_some] <;> rfl), by repeat (first | (with_reducible first | exact HB.out | apply below_alloc | apply pw_below_drewN | apply below_drew1) | exact HB.out)⟩
 ·
  rw [if_neg c2] at H
  have c2b0 : (t251 == 0) = false := beq_eq_false_iff_ne.mpr c2
  have c2b1 : (t251 != 0) = true := bne_iff_ne.mpr c2
  obtain rfl := Option.some.inj H
  go_enter Try.func28, Try.ntmps28
  go_wp2_with (first | ((with_reducible refine gate_dst (N := 5) rfl ?_); (try (refine gate_guard (by rfl) ?_; dsimp only)); refine Kd.R_lit (Kd.int .u64) _ 50 ?hg (N := 5) ?hd (xs := ([7] : List Int)) (inner := [.int .u64 7]) (ok := fun _ => True) (okp := fun _ => True) ?hr ?hp (fun _ hk => hk) trivial (Below.refl _ _) (Nat.le_refl _) (by simp) ?_; (case hd => rfl); (case hg => rfl); (case hr => exact gs_); (case hp => exact (Reps.one (show Kd.M (Kd.int .u64) _ _ _ 7 [.int .u64 7] from rfl) (Reps.none _ _))); intro v244 w32 ho33 hb hg_ hnew_; clear hg_ hnew_; (first | rw [← Ny243.out] at ho33 | (simp only [Int.reduceToNat] at ho33; rw [← Ny243.out] at ho33)); have n0_ := Aside0.mk (Kd.R_lower ho33 (below_size (bb_ HB))); have n1_ := Aside0.mk (below_step (bb_ HB) hb); clear HB; have HO245 := n0_; have HB := n1_; clear n0_ n1_; clear hb ho33) | ((with_reducible refine gate_dst (N := 6) rfl ?_); (try (refine gate_guard (by rfl) ?_; dsimp only)); refine Kd.R_lit (Kd.int .u64) _ 50 ?hg (N := 6) ?hd (xs := ([2] : List Int)) (inner := [.int .u64 2]) (ok := fun _ => True) (okp := fun _ => True) ?hr ?hp (fun _ hk => hk) trivial (Below.refl _ _) (Nat.le_refl _) (by simp) ?_; (case hd => rfl); (case hg => rfl); (case hr => exact gs_); (case hp => exact (Reps.one (show Kd.M (Kd.int .u64) _ _ _ 2 [.int .u64 2] from rfl) (Reps.none _ _))); intro v247 w34 ho35 hb hg_ hnew_; clear hg_ hnew_; (first | rw [← Ny246.out] at ho35 | (simp only [Int.reduceToNat] at ho35; rw [← Ny246.out] at ho35)); have n0_ := Aside0.mk (Kd.R_elder' (rR_ HO245) (Kd.R_base ho35) hb); have n1_ := Aside0.mk (Kd.R_lower (Kd.R_new' ho35 (Kd.R_lt (rR_ HO245))) (below_size (bb_ HB))); have n2_ := Aside0.mk (below_step (bb_ HB) hb); clear HO245; clear HB; have HO245 := n0_; have HO248 := n1_; have HB := n2_; clear n0_ n1_ n2_; clear hb ho35; obtain ⟨Ao36, co36, eo36⟩ := Kd.R_slice HO245.out; subst eo36; obtain ⟨Ao37, co37, eo37⟩ := Kd.R_slice HO248.out; subst eo37) | ((with_reducible refine gate_callee (f := 29) rfl ?_); refine goesL_ (some 7) rfl rfl Try.func29 (by kernel_rfl) rfl #[.slice Ao36 y243.length co36, .slice Ao37 y246.length co37] rfl mt_ ?_; (with_reducible refine (quot_Div.calls k _ _ y243 _ _ y246 t249 t250 t251 _ ?side1 ?side2 ?side3 ?side4 A1.out).mono ?_); (case side1 => exact cc_ (Kd.R_reads' HO245.out).2.2); (case side2 => exact (Kd.R_reads' HO245.out).2.1); (case side3 => exact cc_ (Kd.R_reads' HO248.out).2.2); (case side4 => exact (Kd.R_reads' HO248.out).2.1); rintro e w38 ⟨v252, v254, rfl, ho0, ho1, hb⟩; refine ⟨_, rfl, ?_⟩; have n0_ := Aside0.mk (Kd.R_mono (Kd.R_told (Kd.R_told (Kd.R_old (rR_ HO245) hb) (Kd.R_base ho0)) (Kd.R_base ho1)) (fun _ h_ => h_.1)); have n1_ := Aside0.mk (Kd.R_mono (Kd.R_told (Kd.R_told (Kd.R_old (rR_ HO248) hb) (Kd.R_base ho0)) (Kd.R_base ho1)) (fun _ h_ => h_.1)); have n2_ := Aside0.mk (Kd.R_lower (Kd.R_new' (Kd.R_new' ho0 (Kd.R_lt (rR_ HO245))) (Kd.R_lt (rR_ HO248))) (below_size (bb_ HB))); have n3_ := Aside0.mk (Kd.R_lower (Kd.R_new' (Kd.R_new' ho1 (Kd.R_lt (rR_ HO245))) (Kd.R_lt (rR_ HO248))) (below_size (bb_ HB))); have n4_ := Aside0.mk (below_step (bb_ HB) hb); clear HO245; clear HO248; clear HB; have HO245 := n0_; have HO248 := n1_; have HO253 := n2_; have HO255 := n3_; have HB := n4_; clear n0_ n1_ n2_ n3_ n4_; (try clear hb); (try clear hb2); (try clear hk); (try clear hi); (try clear ho0); (try clear ho1)))
  go_ret
  exact ⟨by first | rfl | (simp [errW_none, errW_some] <;> rfl) | (simp [*, errW_none, errW_some] <;> rfl), by repeat (first | (with_reducible first | exact HB.out | apply below_alloc | apply pw_below_drewN | apply below_drew1) | exact HB.out)⟩

end Go.Proofs.Ytfoickaangjmnaa.POQuotCommon
