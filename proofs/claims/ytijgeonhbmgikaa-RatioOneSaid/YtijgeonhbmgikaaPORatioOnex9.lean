-- Written by a program of this session (pr.py, over the kit's print.py).
import Derived.Test.YtijgeonhbmgikaaPORatioOnex0
import Derived.Test.YtijgeonhbmgikaaPORatioOnex2
import Derived.Test.YtijgeonhbmgikaaPORatioOnex3
import Derived.Test.YtijgeonhbmgikaaPORatioOnex4
import Derived.Test.YtijgeonhbmgikaaPORatioOnex5
import Derived.Test.YtijgeonhbmgikaaPORatioOnex8
namespace Go.Proofs.Ytijgeonhbmgikaa.PORatioOne
open Go.RowKit Go.Proofs.YtijgeonhbmgikaaN Go.Proofs.YtijgeonhbmgikaaW.PrintWords Go.Proofs.YtijgeonhbmgikaaW.PrintLast Go.Proofs.YtijgeonhbmgikaaW.PrintMore
attribute [local go_sem] max2_int min2_int max_two min_two max_three min_three max_four min_four   -- for this text's walks alone
set_option linter.unusedVariables false
set_option linter.unusedSimpArgs false

/-! ### quot_Div: function 72 -/
mutual
def quot_Div.j0 : Nat → List Int → List Int → Bool → Option (List Int × List Int × Int)
 | 0, _, _, _ => none
 | k + 1, x0, x1, x15 => if x15 = true then (some (([] : List Int), ([] : List Int), 1)) else (if (x1.length : Int) = 0 then (some (([] : List Int), ([] : List Int), 30)) else (if (x1.length : Int) = 1 then (if 0 < (x1.length : Int) then ((quot_Small.f k x0 (rd x1 0)).bind fun bt264 => ((nat_Of.f bt264.2.1).bind fun t269 => (some (bt264.1, t269, 0)))) else (none)) else ((limb_Cmp.f k x0 x1).bind fun t272 => (if t272 < 0 then ((limb_Trim.f k x0).bind fun t273 => (some (([] : List Int), t273, 0))) else (if 0 ≤ (wrap64 ((x1.length : Int) - 1)) then (if (wrap64 ((x1.length : Int) - 1)) < (x1.length : Int) then ((bits_LeadingZeros64.f (rd x1 (wrap64 ((x1.length : Int) - 1)))).bind fun t277 => ((limb_Shift.f k x0 t277).bind fun t278 => ((some (([0, 0] : List Int) : List Int)).bind fun y281 => (if t278.length + y281.length < 17592186044416 then ((some (t278 ++ y281 : List Int)).bind fun y284 => ((limb_Shift.f k x1 t277).bind fun t287 => (if 0 ≤ (wrap64 ((y284.length : Int) - (t287.length : Int))) then (if (wrap64 ((y284.length : Int) - (t287.length : Int)) : Int).toNat ≤ 35184372088832 then ((some (List.replicate (wrap64 ((y284.length : Int) - (t287.length : Int)) : Int).toNat 0 : List Int)).bind fun y290 => (quot_Div.l0 k t277 y284 t287 y290 (wrap64 ((y290.length : Int) - 1)))) else (none)) else (none)))) else (none))))) else (none)) else (none))))))
def quot_Div.l0 : Nat → Int → List Int → List Int → List Int → Int → Option (List Int × List Int × Int)
 | 0, _, _, _, _, _ => none
 | k + 1, x10, x11, x12, x13, x14 => if x14 ≥ 0 then (if 0 ≤ x14 then (if x14 ≤ (mn (wrap64 ((wrap64 (x14 + (x12.length : Int))) + 1)) (x11.length : Int)) then (if (mn (wrap64 ((wrap64 (x14 + (x12.length : Int))) + 1)) (x11.length : Int)) ≤ (x11.length : Int) then ((quot_digit.f k ((x11.take ((mn (wrap64 ((wrap64 (x14 + (x12.length : Int))) + 1)) (x11.length : Int)) : Int).toNat).drop (x14 : Int).toNat) x12).bind fun t297 => (if x14 < (x13.length : Int) then (quot_Div.l0 k x10 (Go.splice x11 (x14 : Int).toNat t297.2) x12 (x13.set (x14 : Int).toNat t297.1) (wrap64 (x14 - 1))) else (none))) else (none)) else (none)) else (none)) else ((limb_Trim.f k x13).bind fun t299 => ((limb_Shift.f k x11 (wrap64 (-x10))).bind fun t302 => (some (t299, t302, 0))))
end
def quot_Div.f (k : Nat) (l0 : List Int) (l1 : List Int) : Option (List Int × List Int × Int) := (nat_May.f l0).bind fun t261 => (if t261 = true then ((nat_May.f l1).bind fun t262 => (quot_Div.j0 k l0 l1 (!t262))) else (quot_Div.j0 k l0 l1 true))
theorem quot_Div.mono_l : ∀ k, (∀ y0 y1 y2, LeO (quot_Div.j0 k y0 y1 y2) (quot_Div.j0 (k + 1) y0 y1 y2)) ∧ (∀ y0 y1 y2 y3 y4, LeO (quot_Div.l0 k y0 y1 y2 y3 y4) (quot_Div.l0 (k + 1) y0 y1 y2 y3 y4))
 | 0 => ⟨fun _ _ _ r h => by simp [quot_Div.j0] at h, fun _ _ _ _ _ r h => by simp [quot_Div.l0] at h⟩
 | k + 1 => by
  obtain ⟨ih0, ih1⟩ := quot_Div.mono_l k
  refine ⟨?_, ?_⟩
  ·
   intro y0 y1 y2
   unfold quot_Div.j0
   repeat' first
   | (with_reducible exact ih0 _ _ _)
   | (with_reducible exact ih1 _ _ _ _ _)
   | (with_reducible exact limb_Cmp.mono _ _ _)
   | (with_reducible exact limb_Shift.mono _ _ _)
   | (with_reducible exact limb_Trim.mono _ _)
   | (with_reducible exact quot_Small.mono _ _ _)
   | (with_reducible exact quot_digit.mono _ _ _)
   | (with_reducible exact LeO.refl _)
   | (with_reducible exact LeO.none _)
   | (with_reducible refine LeO.ite ?_ ?_)
   | (with_reducible refine LeO.bind ?_ (fun _ => ?_))
  ·
   intro y0 y1 y2 y3 y4
   unfold quot_Div.l0
   repeat' first
   | (with_reducible exact ih0 _ _ _)
   | (with_reducible exact ih1 _ _ _ _ _)
   | (with_reducible exact limb_Cmp.mono _ _ _)
   | (with_reducible exact limb_Shift.mono _ _ _)
   | (with_reducible exact limb_Trim.mono _ _)
   | (with_reducible exact quot_Small.mono _ _ _)
   | (with_reducible exact quot_digit.mono _ _ _)
   | (with_reducible exact LeO.refl _)
   | (with_reducible exact LeO.none _)
   | (with_reducible refine LeO.ite ?_ ?_)
   | (with_reducible refine LeO.bind ?_ (fun _ => ?_))
theorem quot_Div.mono : ∀ a0 a1 k, LeO (quot_Div.f k a0 a1) (quot_Div.f (k + 1) a0 a1) := by
 intro a0 a1 k
 obtain ⟨ih0, ih1⟩ := quot_Div.mono_l k
 unfold quot_Div.f
 repeat' first
   | (with_reducible exact ih0 _ _ _)
   | (with_reducible exact ih1 _ _ _ _ _)
   | (with_reducible exact limb_Cmp.mono _ _ _)
   | (with_reducible exact limb_Shift.mono _ _ _)
   | (with_reducible exact limb_Trim.mono _ _)
   | (with_reducible exact quot_Small.mono _ _ _)
   | (with_reducible exact quot_digit.mono _ _ _)
   | (with_reducible exact LeO.refl _)
   | (with_reducible exact LeO.none _)
   | (with_reducible refine LeO.ite ?_ ?_)
   | (with_reducible refine LeO.bind ?_ (fun _ => ?_))
set_option maxHeartbeats 8000000 in
set_option maxRecDepth 100000 in
theorem quot_Div.calls (k : Nat) (A0 : Option Addr) (c0 : Nat) (l0 : List Int) (A1 : Option Addr) (c1 : Nat) (l1 : List Int) (r1 : List Int) (r2 : List Int) (r3 : Int) (w : World) (hr0 : Kd.C (Kd.int .u64) w A0 l0.length l0) (hc0 : l0.length ≤ c0) (hr1 : Kd.C (Kd.int .u64) w A1 l1.length l1) (hc1 : l1.length ≤ c1) (h : quot_Div.f k l0 l1 = some (r1, r2, r3)) :
  Calls Try.prog 72 #[.slice A0 l0.length c0, .slice A1 l1.length c1] w fun e w' => ∃ v0_ v1_ : Value, e = .returned (.tuple #[v0_, v1_, .int .i64 r3]) ∧ Kd.R (Kd.int .u64) 22 w' w.heap.size (fun k_ => some k_ ≠ (v1_ : Value).ownBlock) v0_ r1 ∧ Kd.R (Kd.int .u64) 22 w' w.heap.size (fun k_ => some k_ ≠ (v0_ : Value).ownBlock) v1_ r2 ∧ Below w.heap.size w w' := by
 have HR0 := Aside0.mk hr0
 have HC0 := Aside0.mk hc0
 clear hr0 hc0
 have HR1 := Aside0.mk hr1
 have HC1 := Aside0.mk hc1
 clear hr1 hc1
 have HB := Aside0.mk (Below.refl w.heap.size w)
 have H : ((nat_May.f l0).bind fun t261 => (if t261 = true then ((nat_May.f l1).bind fun t262 => (quot_Div.j0 k l0 l1 (!t262))) else (quot_Div.j0 k l0 l1 true))) = some (r1, r2, r3) := h
 clear h
 have HC3 := Aside0.mk H
 clear H
 go_enter Try.func72, Try.ntmps72
 go_upto_region 1 with (fail)
 go_cut [15] (fun v15 wc => ∃ (kq : Nat) (x15_2 : Bool), v15 = .bool x15_2 ∧ Aside0 (quot_Div.j0 kq l0 l1 x15_2 = some (r1, r2, r3)) ∧ Aside0 (kq ≤ k) ∧ Aside0 (Below w.heap.size w wc))
 case first =>
  have H := HC3.out
  clear HC3
  replace H := Option.bind_eq_some_iff.mp H
  obtain ⟨t261, A40, H⟩ := H
  replace H : (if t261 = true then ((nat_May.f l1).bind fun t262 => (quot_Div.j0 k l0 l1 (!t262))) else (quot_Div.j0 k l0 l1 true)) = some (r1, r2, r3) := H
  have A4 := Aside0.mk A40
  clear A40
  by_cases c5 : t261 = true
  ·
   subst c5
   have H1 : ((nat_May.f l1).bind fun t262 => (quot_Div.j0 k l0 l1 (!t262))) = some (r1, r2, r3) := by rw [if_pos rfl] at H; exact H
   clear H
   have H := H1
   clear H1
   replace H := Option.bind_eq_some_iff.mp H
   obtain ⟨t262, A60, H⟩ := H
   replace H : (quot_Div.j0 k l0 l1 (!t262)) = some (r1, r2, r3) := H
   have A6 := Aside0.mk A60
   clear A60
   have H' := Aside0.mk H
   clear H
   go_wp2_with (first | ((with_reducible refine gate_callee (f := 64) rfl ?_); refine goesL_ (some 17) rfl rfl Try.func64 (by kernel_rfl) rfl #[.slice A0 l0.length c0] rfl mt_ ?_; (with_reducible refine (nat_May.calls _ _ l0 true _ ?side1 ?side2 A4.out).mono ?_); (case side1 => exact cc_ (Kd.C_below HR0.out HB.out)); (case side2 => exact HC0.out); rintro e w' ⟨rfl, ⟨nd, rfl⟩⟩; refine ⟨_, rfl, ?_⟩) | ((with_reducible refine gate_dst (N := 21) rfl ?_); refine gate_guard (by first | rfl | kernel_rfl) ?_; dsimp only; (with_reducible refine gate_callee (f := 64) rfl ?_); refine goesL_ (some 21) rfl rfl Try.func64 (by kernel_rfl) rfl #[.slice A1 l1.length c1] rfl mt_ ?_; (with_reducible refine (nat_May.calls _ _ l1 t262 _ ?side1 ?side2 A6.out).mono ?_); (case side1 => repeat (first | exact (Kd.C_below HR1.out (bb_ HB)) | (with_reducible refine Kd.C_alloc ?_ _) | (with_reducible refine Kd.C_drewN ?_ _) | (with_reducible refine Kd.C_drew ?_))); (case side2 => exact HC1.out); rintro e w' ⟨rfl, ⟨nd, rfl⟩⟩; refine ⟨_, rfl, ?_⟩))
   go_meet
   case rel => exact ⟨_, (!t262), sd_, H', ⟨by first | omega | exact Nat.le_refl _⟩, ⟨by repeat (first | (with_reducible first | exact HB.out | apply below_alloc | apply pw_below_drewN | apply below_drew1) | exact HB.out)⟩⟩
  ·
   replace c5 := Bool.eq_false_iff.mpr c5
   subst c5
   have H1 : (quot_Div.j0 k l0 l1 true) = some (r1, r2, r3) := by rw [if_neg (show ¬ (false = true) by decide)] at H; exact H
   clear H
   have H := H1
   clear H1
   have H' := Aside0.mk H
   clear H
   go_wp2_with (first | ((with_reducible refine gate_callee (f := 64) rfl ?_); refine goesL_ (some 17) rfl rfl Try.func64 (by kernel_rfl) rfl #[.slice A0 l0.length c0] rfl mt_ ?_; (with_reducible refine (nat_May.calls _ _ l0 false _ ?side1 ?side2 A4.out).mono ?_); (case side1 => exact cc_ (Kd.C_below HR0.out HB.out)); (case side2 => exact HC0.out); rintro e w' ⟨rfl, ⟨nd, rfl⟩⟩; refine ⟨_, rfl, ?_⟩))
   go_meet
   case rel => exact ⟨_, (true), sd_, H', ⟨by first | omega | exact Nat.le_refl _⟩, ⟨by repeat (first | (with_reducible first | exact HB.out | apply below_alloc | apply pw_below_drewN | apply below_drew1) | exact HB.out)⟩⟩
 case rest =>
  clear HC3
  try clear c1
  try clear p2
  try clear c5
  try clear c6
  obtain ⟨kq, x15_2, rfl, HA, HJ2, HB⟩ := hcut
  cases kq with
  | zero => exact absurd HA.out (by simp [quot_Div.j0])
  | succ kj2 =>
   have H := HA.out
   clear HA
   simp only [quot_Div.j0] at H
   by_cases c7 : x15_2 = true
   ·
    subst c7
    have H1 : (some (([] : List Int), ([] : List Int), 1)) = some (r1, r2, r3) := by rw [if_pos rfl] at H; exact H
    clear H
    have H := H1
    clear H1
    simp only [Option.some.injEq, Prod.mk.injEq] at H
    obtain ⟨rfl, rfl, rfl⟩ := H
    go_wp2
    go_ret3
    exact ⟨_, _, by first | rfl | (simp [errW_none, errW_some] <;> rfl) | (simp [*, errW_none, errW_some] <;> rfl), by first | exact Kd.R_nil _ _ _ _ _ | exact Kd.N_nil _ _ _ _ _ | exact Kd.V_nil _ _ _ _ _ | exact Kd.Q_nil _ _ _ _ _ | exact Kd.S_nil _ _ _ _ _, by first | exact Kd.R_nil _ _ _ _ _ | exact Kd.N_nil _ _ _ _ _ | exact Kd.V_nil _ _ _ _ _ | exact Kd.Q_nil _ _ _ _ _ | exact Kd.S_nil _ _ _ _ _, by repeat (first | (with_reducible first | exact HB.out | apply below_alloc | apply pw_below_drewN | apply below_drew1) | exact HB.out)⟩
   ·
    replace c7 := Bool.eq_false_iff.mpr c7
    subst c7
    have H1 : (if (l1.length : Int) = 0 then (some (([] : List Int), ([] : List Int), 30)) else (if (l1.length : Int) = 1 then (if 0 < (l1.length : Int) then ((quot_Small.f kj2 l0 (rd l1 0)).bind fun bt264 => ((nat_Of.f bt264.2.1).bind fun t269 => (some (bt264.1, t269, 0)))) else (none)) else ((limb_Cmp.f kj2 l0 l1).bind fun t272 => (if t272 < 0 then ((limb_Trim.f kj2 l0).bind fun t273 => (some (([] : List Int), t273, 0))) else (if 0 ≤ (wrap64 ((l1.length : Int) - 1)) then (if (wrap64 ((l1.length : Int) - 1)) < (l1.length : Int) then ((bits_LeadingZeros64.f (rd l1 (wrap64 ((l1.length : Int) - 1)))).bind fun t277 => ((limb_Shift.f kj2 l0 t277).bind fun t278 => ((some (([0, 0] : List Int) : List Int)).bind fun y281 => (if t278.length + y281.length < 17592186044416 then ((some (t278 ++ y281 : List Int)).bind fun y284 => ((limb_Shift.f kj2 l1 t277).bind fun t287 => (if 0 ≤ (wrap64 ((y284.length : Int) - (t287.length : Int))) then (if (wrap64 ((y284.length : Int) - (t287.length : Int)) : Int).toNat ≤ 35184372088832 then ((some (List.replicate (wrap64 ((y284.length : Int) - (t287.length : Int)) : Int).toNat 0 : List Int)).bind fun y290 => (quot_Div.l0 kj2 t277 y284 t287 y290 (wrap64 ((y290.length : Int) - 1)))) else (none)) else (none)))) else (none))))) else (none)) else (none)))))) = some (r1, r2, r3) := by rw [if_neg (show ¬ (false = true) by decide)] at H; exact H
    clear H
    have H := H1
    clear H1
    by_cases c8 : (l1.length : Int) = 0
    ·
     rw [if_pos c8] at H
     have c8b0 : ((l1.length : Int) == 0) = true := beq_iff_eq.mpr c8
     have c8b1 : ((l1.length : Int) != 0) = false := bne_eq_false_iff_eq.mpr c8
     clear c8
     simp only [Option.some.injEq, Prod.mk.injEq] at H
     obtain ⟨rfl, rfl, rfl⟩ := H
     go_wp2
     go_ret3
     exact ⟨_, _, by first | rfl | (simp [errW_none, errW_some] <;> rfl) | (simp [*, errW_none, errW_some] <;> rfl), by first | exact Kd.R_nil _ _ _ _ _ | exact Kd.N_nil _ _ _ _ _ | exact Kd.V_nil _ _ _ _ _ | exact Kd.Q_nil _ _ _ _ _ | exact Kd.S_nil _ _ _ _ _, by first | exact Kd.R_nil _ _ _ _ _ | exact Kd.N_nil _ _ _ _ _ | exact Kd.V_nil _ _ _ _ _ | exact Kd.Q_nil _ _ _ _ _ | exact Kd.S_nil _ _ _ _ _, by repeat (first | (with_reducible first | exact HB.out | apply below_alloc | apply pw_below_drewN | apply below_drew1) | exact HB.out)⟩
    ·
     rw [if_neg c8] at H
     have c8b0 : ((l1.length : Int) == 0) = false := beq_eq_false_iff_ne.mpr c8
     have c8b1 : ((l1.length : Int) != 0) = true := bne_iff_ne.mpr c8
     have c8b2 : ¬ (l1 = []) := fun h_ => c8 (by rw [h_]; rfl)
     by_cases c9 : (l1.length : Int) = 1
     ·
      rw [if_pos c9] at H
      have c9b0 : ((l1.length : Int) == 1) = true := beq_iff_eq.mpr c9
      have c9b1 : ((l1.length : Int) != 1) = false := bne_eq_false_iff_eq.mpr c9
      clear c9
      by_cases c10 : 0 < (l1.length : Int)
      ·
       rw [if_pos c10] at H
       have c10b0 : decide (0 < (l1.length : Int)) = true := decide_eq_true c10
       have c10b1 : decide (0 < l1.length) = true := decide_eq_true (by omega)
       clear c10
       replace H := Option.bind_eq_some_iff.mp H
       obtain ⟨⟨t264, t265, t266⟩, A110, H⟩ := H
       replace H : ((nat_Of.f t265).bind fun t269 => (some (t264, t269, 0))) = some (r1, r2, r3) := H
       have A11 := Aside0.mk A110
       clear A110
       replace H := Option.bind_eq_some_iff.mp H
       obtain ⟨t269, A120, H⟩ := H
       replace H : (some (t264, t269, 0)) = some (r1, r2, r3) := H
       have A12 := Aside0.mk A120
       clear A120
       simp only [Option.some.injEq, Prod.mk.injEq] at H
       obtain ⟨rfl, rfl, rfl⟩ := H
       have p263 : 0 ≤ (0 : Int) := (by omega)
       have q263 : 0 < (l1.length : Int) := of_decide_eq_true am_
       obtain ⟨ad263, e263, hx263_0⟩ := Kd.at_int HR1.out 0 p263 q263
       cases e263
       have qi263 : (0 < l1.length) = True := eq_true (by omega)
       (try rw [show ((0 : Int)).toNat = 0 from rfl] at hx263_0)
       (try rw [Addr.add_zero'] at hx263_0)
       replace hx263_0 := (HB.out.cell (World.block_lt_of_cell? w _ hx263_0)).trans hx263_0
       replace p263 := eq_true p263
       replace q263 := eq_true q263
       go_wp2_with (first | ((with_reducible refine gate_callee (f := 97) rfl ?_); refine goesL_ (some 37) rfl rfl Try.func97 (by kernel_rfl) rfl #[.slice A0 l0.length c0, .int .u64 (rd l1 0)] rfl mt_ ?_; (with_reducible refine (quot_Small.calls kj2 _ _ l0 (rd l1 0) t264 t265 t266 _ ?side1 ?side2 A11.out).mono ?_); (case side1 => exact cc_ (Kd.C_below HR0.out HB.out)); (case side2 => exact HC0.out); rintro e w13 ⟨v267, rfl, ho0, hb⟩; refine ⟨_, rfl, ?_⟩; have n0_ := Aside0.mk (Kd.R_lower ho0 (below_size (bb_ HB))); have n1_ := Aside0.mk (below_step (bb_ HB) hb); clear HB; have HO268 := n0_; have HB := n1_; clear n0_ n1_; (try clear hb); (try clear hb2); (try clear hk); (try clear hi); (try clear ho0)) | ((with_reducible refine gate_callee (f := 81) rfl ?_); refine goesL_ (some 43) rfl rfl Try.func81 (by kernel_rfl) rfl #[.int .u64 t265] rfl mt_ ?_; (with_reducible refine (nat_Of.calls t265 t269 _ A12.out).mono ?_); rintro e w14 ⟨v270, rfl, ho0, hb⟩; refine ⟨_, rfl, ?_⟩; have n0_ := Aside0.mk (Kd.R_elder' (rR_ HO268) (Kd.R_base ho0) hb); have n1_ := Aside0.mk (Kd.R_lower (Kd.R_new' ho0 (Kd.R_lt (rR_ HO268))) (below_size (bb_ HB))); have n2_ := Aside0.mk (below_step (bb_ HB) hb); clear HO268; clear HB; have HO268 := n0_; have HO271 := n1_; have HB := n2_; clear n0_ n1_ n2_; (try clear hb); (try clear hb2); (try clear hk); (try clear hi); (try clear ho0)))
       go_ret3
       exact ⟨_, _, by first | rfl | (simp [errW_none, errW_some] <;> rfl) | (simp [*, errW_none, errW_some] <;> rfl), by (with_reducible repeat (first | apply Kd.R_alloc | apply Kd.R_drewN | apply Kd.R_drew)); exact Kd.R_mono HO268.out (fun _ hk => hk.2), by (with_reducible repeat (first | apply Kd.R_alloc | apply Kd.R_drewN | apply Kd.R_drew)); exact Kd.R_mono HO271.out (fun _ hk => hk.2), by repeat (first | (with_reducible first | exact HB.out | apply below_alloc | apply pw_below_drewN | apply below_drew1) | exact HB.out)⟩
      ·
       rw [if_neg c10] at H
       exact absurd H (by simp)
     ·
      rw [if_neg c9] at H
      have c9b0 : ((l1.length : Int) == 1) = false := beq_eq_false_iff_ne.mpr c9
      have c9b1 : ((l1.length : Int) != 1) = true := bne_iff_ne.mpr c9
      replace H := Option.bind_eq_some_iff.mp H
      obtain ⟨t272, A150, H⟩ := H
      replace H : (if t272 < 0 then ((limb_Trim.f kj2 l0).bind fun t273 => (some (([] : List Int), t273, 0))) else (if 0 ≤ (wrap64 ((l1.length : Int) - 1)) then (if (wrap64 ((l1.length : Int) - 1)) < (l1.length : Int) then ((bits_LeadingZeros64.f (rd l1 (wrap64 ((l1.length : Int) - 1)))).bind fun t277 => ((limb_Shift.f kj2 l0 t277).bind fun t278 => ((some (([0, 0] : List Int) : List Int)).bind fun y281 => (if t278.length + y281.length < 17592186044416 then ((some (t278 ++ y281 : List Int)).bind fun y284 => ((limb_Shift.f kj2 l1 t277).bind fun t287 => (if 0 ≤ (wrap64 ((y284.length : Int) - (t287.length : Int))) then (if (wrap64 ((y284.length : Int) - (t287.length : Int)) : Int).toNat ≤ 35184372088832 then ((some (List.replicate (wrap64 ((y284.length : Int) - (t287.length : Int)) : Int).toNat 0 : List Int)).bind fun y290 => (quot_Div.l0 kj2 t277 y284 t287 y290 (wrap64 ((y290.length : Int) - 1)))) else (none)) else (none)))) else (none))))) else (none)) else (none))) = some (r1, r2, r3) := H
      have A15 := Aside0.mk A150
      clear A150
      by_cases c16 : t272 < 0
      ·
       rw [if_pos c16] at H
       have c16b0 : decide (t272 < 0) = true := decide_eq_true c16
       clear c16
       replace H := Option.bind_eq_some_iff.mp H
       obtain ⟨t273, A170, H⟩ := H
       replace H : (some (([] : List Int), t273, 0)) = some (r1, r2, r3) := H
       have A17 := Aside0.mk A170
       clear A170
       simp only [Option.some.injEq, Prod.mk.injEq] at H
       obtain ⟨rfl, rfl, rfl⟩ := H
       go_wp2_with (first | ((with_reducible refine gate_callee (f := 98) rfl ?_); refine goesL_ (some 47) rfl rfl Try.func98 (by kernel_rfl) rfl #[.slice A0 l0.length c0, .slice A1 l1.length c1] rfl mt_ ?_; (with_reducible refine (limb_Cmp.calls kj2 _ _ l0 _ _ l1 t272 _ ?side1 ?side2 ?side3 ?side4 A15.out).mono ?_); (case side1 => exact cc_ (Kd.C_below HR0.out HB.out)); (case side2 => exact HC0.out); (case side3 => exact cc_ (Kd.C_below HR1.out HB.out)); (case side4 => exact HC1.out); rintro e w18 ⟨rfl, hb⟩; refine ⟨_, rfl, ?_⟩; have n0_ := Aside0.mk (below_step (bb_ HB) hb); clear HB; have HB := n0_; clear n0_; (try clear hb); (try clear hb2); (try clear hk); (try clear hi)) | ((with_reducible refine gate_callee (f := 96) rfl ?_); refine goesL_ (some 50) rfl rfl Try.func96 (by kernel_rfl) rfl #[.slice A0 l0.length c0] rfl mt_ ?_; (with_reducible refine (limb_Trim.calls kj2 _ _ l0 t273 _ ?side1 ?side2 A17.out).mono ?_); (case side1 => exact cc_ (Kd.C_below HR0.out HB.out)); (case side2 => exact HC0.out); rintro e w19 ⟨v274, rfl, ho0, hb⟩; refine ⟨_, rfl, ?_⟩; have n0_ := Aside0.mk (Kd.R_lower ho0 (below_size (bb_ HB))); have n1_ := Aside0.mk (below_step (bb_ HB) hb); clear HB; have HO275 := n0_; have HB := n1_; clear n0_ n1_; (try clear hb); (try clear hb2); (try clear hk); (try clear hi); (try clear ho0)))
       go_ret3
       exact ⟨_, _, by first | rfl | (simp [errW_none, errW_some] <;> rfl) | (simp [*, errW_none, errW_some] <;> rfl), by first | exact Kd.R_nil _ _ _ _ _ | exact Kd.N_nil _ _ _ _ _ | exact Kd.V_nil _ _ _ _ _ | exact Kd.Q_nil _ _ _ _ _ | exact Kd.S_nil _ _ _ _ _, by (with_reducible repeat (first | apply Kd.R_alloc | apply Kd.R_drewN | apply Kd.R_drew)); exact Kd.R_mono HO275.out (fun _ hk => (by simp [Value.ownBlock])), by repeat (first | (with_reducible first | exact HB.out | apply below_alloc | apply pw_below_drewN | apply below_drew1) | exact HB.out)⟩
      ·
       rw [if_neg c16] at H
       have c16b0 : decide (t272 < 0) = false := decide_eq_false c16
       clear c16
       obtain ⟨ji20, hji20⟩ : ∃ j_ : Int, (wrap64 ((l1.length : Int) - 1)) = j_ := ⟨_, rfl⟩
       replace H : (if 0 ≤ (ji20) then (if (ji20) < (l1.length : Int) then ((bits_LeadingZeros64.f (rd l1 (ji20))).bind fun t277 => ((limb_Shift.f kj2 l0 t277).bind fun t278 => ((some (([0, 0] : List Int) : List Int)).bind fun y281 => (if t278.length + y281.length < 17592186044416 then ((some (t278 ++ y281 : List Int)).bind fun y284 => ((limb_Shift.f kj2 l1 t277).bind fun t287 => (if 0 ≤ (wrap64 ((y284.length : Int) - (t287.length : Int))) then (if (wrap64 ((y284.length : Int) - (t287.length : Int)) : Int).toNat ≤ 35184372088832 then ((some (List.replicate (wrap64 ((y284.length : Int) - (t287.length : Int)) : Int).toNat 0 : List Int)).bind fun y290 => (quot_Div.l0 kj2 t277 y284 t287 y290 (wrap64 ((y290.length : Int) - 1)))) else (none)) else (none)))) else (none))))) else (none)) else (none)) = some (r1, r2, r3) := by first | (rw [hji20] at H; exact H) | (simp only [hji20] at H ⊢; exact H)
       (try rw [hji20] at A15)
       have hji20w : (IntKind.i64.wrap ((l1.length : Int) - 1)) = ji20 := (i64_w _).trans hji20
       by_cases c21 : 0 ≤ (ji20)
       ·
        rw [if_pos c21] at H
        have c21b0 : decide (0 ≤ (ji20)) = true := decide_eq_true c21
        clear c21
        by_cases c22 : (ji20) < (l1.length : Int)
        ·
         rw [if_pos c22] at H
         have c22b0 : decide ((ji20) < (l1.length : Int)) = true := decide_eq_true c22
         clear c22
         replace H := Option.bind_eq_some_iff.mp H
         obtain ⟨t277, A230, H⟩ := H
         replace H : ((limb_Shift.f kj2 l0 t277).bind fun t278 => ((some (([0, 0] : List Int) : List Int)).bind fun y281 => (if t278.length + y281.length < 17592186044416 then ((some (t278 ++ y281 : List Int)).bind fun y284 => ((limb_Shift.f kj2 l1 t277).bind fun t287 => (if 0 ≤ (wrap64 ((y284.length : Int) - (t287.length : Int))) then (if (wrap64 ((y284.length : Int) - (t287.length : Int)) : Int).toNat ≤ 35184372088832 then ((some (List.replicate (wrap64 ((y284.length : Int) - (t287.length : Int)) : Int).toNat 0 : List Int)).bind fun y290 => (quot_Div.l0 kj2 t277 y284 t287 y290 (wrap64 ((y290.length : Int) - 1)))) else (none)) else (none)))) else (none)))) = some (r1, r2, r3) := H
         have A23 := Aside0.mk A230
         clear A230
         replace H := Option.bind_eq_some_iff.mp H
         obtain ⟨t278, A240, H⟩ := H
         replace H : ((some (([0, 0] : List Int) : List Int)).bind fun y281 => (if t278.length + y281.length < 17592186044416 then ((some (t278 ++ y281 : List Int)).bind fun y284 => ((limb_Shift.f kj2 l1 t277).bind fun t287 => (if 0 ≤ (wrap64 ((y284.length : Int) - (t287.length : Int))) then (if (wrap64 ((y284.length : Int) - (t287.length : Int)) : Int).toNat ≤ 35184372088832 then ((some (List.replicate (wrap64 ((y284.length : Int) - (t287.length : Int)) : Int).toNat 0 : List Int)).bind fun y290 => (quot_Div.l0 kj2 t277 y284 t287 y290 (wrap64 ((y290.length : Int) - 1)))) else (none)) else (none)))) else (none))) = some (r1, r2, r3) := H
         have A24 := Aside0.mk A240
         clear A240
         obtain ⟨y281, hy281⟩ : ∃ y_ : List Int, y_ = (([0, 0] : List Int)) := ⟨_, rfl⟩
         replace H : (if t278.length + y281.length < 17592186044416 then ((some (t278 ++ y281 : List Int)).bind fun y284 => ((limb_Shift.f kj2 l1 t277).bind fun t287 => (if 0 ≤ (wrap64 ((y284.length : Int) - (t287.length : Int))) then (if (wrap64 ((y284.length : Int) - (t287.length : Int)) : Int).toNat ≤ 35184372088832 then ((some (List.replicate (wrap64 ((y284.length : Int) - (t287.length : Int)) : Int).toNat 0 : List Int)).bind fun y290 => (quot_Div.l0 kj2 t277 y284 t287 y290 (wrap64 ((y290.length : Int) - 1)))) else (none)) else (none)))) else (none)) = some (r1, r2, r3) := by first | (rw [hy281]; with_reducible exact H) | (have H2_ := (Option.bind_some _ _).symm.trans H; rw [hy281]; with_reducible exact H2_) | (have H2_ := (Option.bind_some _ _).symm.trans H; with_reducible exact H2_) | with_reducible exact H | (rw [hy281]; exact H) | exact H
         have Ny281 := Aside0.mk hy281
         clear hy281
         by_cases c25 : t278.length + y281.length < 17592186044416
         ·
          rw [if_pos c25] at H
          have LMc25 := Aside0.mk c25
          clear c25
          obtain ⟨y284, hy284⟩ : ∃ y_ : List Int, y_ = (t278 ++ y281) := ⟨_, rfl⟩
          replace H : ((limb_Shift.f kj2 l1 t277).bind fun t287 => (if 0 ≤ (wrap64 ((y284.length : Int) - (t287.length : Int))) then (if (wrap64 ((y284.length : Int) - (t287.length : Int)) : Int).toNat ≤ 35184372088832 then ((some (List.replicate (wrap64 ((y284.length : Int) - (t287.length : Int)) : Int).toNat 0 : List Int)).bind fun y290 => (quot_Div.l0 kj2 t277 y284 t287 y290 (wrap64 ((y290.length : Int) - 1)))) else (none)) else (none))) = some (r1, r2, r3) := by first | (rw [hy284]; with_reducible exact H) | (have H2_ := (Option.bind_some _ _).symm.trans H; rw [hy284]; with_reducible exact H2_) | (have H2_ := (Option.bind_some _ _).symm.trans H; with_reducible exact H2_) | with_reducible exact H | (rw [hy284]; exact H) | exact H
          have Ny284 := Aside0.mk hy284
          clear hy284
          replace H := Option.bind_eq_some_iff.mp H
          obtain ⟨t287, A260, H⟩ := H
          replace H : (if 0 ≤ (wrap64 ((y284.length : Int) - (t287.length : Int))) then (if (wrap64 ((y284.length : Int) - (t287.length : Int)) : Int).toNat ≤ 35184372088832 then ((some (List.replicate (wrap64 ((y284.length : Int) - (t287.length : Int)) : Int).toNat 0 : List Int)).bind fun y290 => (quot_Div.l0 kj2 t277 y284 t287 y290 (wrap64 ((y290.length : Int) - 1)))) else (none)) else (none)) = some (r1, r2, r3) := H
          have A26 := Aside0.mk A260
          clear A260
          obtain ⟨ji27, hji27⟩ : ∃ j_ : Int, (wrap64 ((y284.length : Int) - (t287.length : Int))) = j_ := ⟨_, rfl⟩
          replace H : (if 0 ≤ (ji27) then (if (ji27 : Int).toNat ≤ 35184372088832 then ((some (List.replicate (ji27 : Int).toNat 0 : List Int)).bind fun y290 => (quot_Div.l0 kj2 t277 y284 t287 y290 (wrap64 ((y290.length : Int) - 1)))) else (none)) else (none)) = some (r1, r2, r3) := by first | (rw [hji27] at H; exact H) | (simp only [hji27] at H ⊢; exact H)
          (try rw [hji27] at A15)
          (try rw [hji27] at A23)
          (try rw [hji27] at A24)
          (try rw [hji27] at A26)
          have hji27w : (IntKind.i64.wrap ((y284.length : Int) - (t287.length : Int))) = ji27 := (i64_w _).trans hji27
          by_cases c28 : 0 ≤ (ji27)
          ·
           rw [if_pos c28] at H
           have c28b0 := eq_true c28
           have c28b1 : decide (0 ≤ (ji27)) = true := decide_eq_true c28
           clear c28
           by_cases c29 : (ji27 : Int).toNat ≤ 35184372088832
           ·
            rw [if_pos c29] at H
            have c29b0 := eq_true c29
            have c29b1 : decide ((ji27 : Int).toNat ≤ 35184372088832) = true := decide_eq_true c29
            clear c29
            obtain ⟨y290, hy290⟩ : ∃ y_ : List Int, y_ = (List.replicate (ji27 : Int).toNat 0) := ⟨_, rfl⟩
            replace H : (quot_Div.l0 kj2 t277 y284 t287 y290 (wrap64 ((y290.length : Int) - 1))) = some (r1, r2, r3) := by first | (rw [hy290]; with_reducible exact H) | (have H2_ := (Option.bind_some _ _).symm.trans H; rw [hy290]; with_reducible exact H2_) | (have H2_ := (Option.bind_some _ _).symm.trans H; with_reducible exact H2_) | with_reducible exact H | (rw [hy290]; exact H) | exact H
            have Ny290 := Aside0.mk hy290
            clear hy290
            have H' := Aside0.mk H
            clear H
            go_wp2_with (first | ((with_reducible refine gate_callee (f := 98) rfl ?_); refine goesL_ (some 47) rfl rfl Try.func98 (by kernel_rfl) rfl #[.slice A0 l0.length c0, .slice A1 l1.length c1] rfl mt_ ?_; (with_reducible refine (limb_Cmp.calls kj2 _ _ l0 _ _ l1 t272 _ ?side1 ?side2 ?side3 ?side4 A15.out).mono ?_); (case side1 => exact cc_ (Kd.C_below HR0.out HB.out)); (case side2 => exact HC0.out); (case side3 => exact cc_ (Kd.C_below HR1.out HB.out)); (case side4 => exact HC1.out); rintro e w30 ⟨rfl, hb⟩; refine ⟨_, rfl, ?_⟩; have n0_ := Aside0.mk (below_step (bb_ HB) hb); clear HB; have HB := n0_; clear n0_; (try clear hb); (try clear hb2); (try clear hk); (try clear hi); have p276 : 0 ≤ ((ji20) : Int) := of_decide_eq_true am_; have q276 : (ji20) < (l1.length : Int) := of_decide_eq_true am_; obtain ⟨ad276, e276, hx276_0⟩ := Kd.at_int HR1.out (ji20) p276 q276; cases e276; replace hx276_0 := (HB.out.cell (World.block_lt_of_cell? w _ hx276_0)).trans hx276_0; replace p276 := eq_true p276; replace q276 := eq_true q276) | ((with_reducible refine gate_callee (f := 99) rfl ?_); refine goesL_ (some 57) rfl rfl Try.func99 (by kernel_rfl) rfl #[.int .u64 (rd l1 (ji20))] rfl (by (try simp only [List.map_toArray, List.map_cons, List.map_nil]); first | done | (simp only [hji20]; rfl) | rfl | (simp only [List.length_drop, List.length_take]; rfl)) ?_; (with_reducible refine (bits_LeadingZeros64.calls (rd l1 (ji20)) t277 _ A23.out).mono ?_); rintro e w31 ⟨rfl, hb⟩; refine ⟨_, rfl, ?_⟩; have n0_ := Aside0.mk (below_step (bb_ HB) hb); clear HB; have HB := n0_; clear n0_; (try clear hb); (try clear hb2); (try clear hk); (try clear hi)) | ((with_reducible refine gate_callee (f := 100) rfl ?_); refine goesL_ (some 60) rfl rfl Try.func100 (by kernel_rfl) rfl #[.slice A0 l0.length c0, .int .i64 t277] rfl mt_ ?_; (with_reducible refine (limb_Shift.calls kj2 _ _ l0 t277 t278 _ ?side1 ?side2 A24.out).mono ?_); (case side1 => exact cc_ (Kd.C_below HR0.out HB.out)); (case side2 => exact HC0.out); rintro e w32 ⟨v279, rfl, ho0, hb⟩; refine ⟨_, rfl, ?_⟩; have n0_ := Aside0.mk (Kd.R_lower ho0 (below_size (bb_ HB))); have n1_ := Aside0.mk (below_step (bb_ HB) hb); clear HB; have HO280 := n0_; have HB := n1_; clear n0_ n1_; (try clear hb); (try clear hb2); (try clear hk); (try clear hi); (try clear ho0)) | ((with_reducible refine gate_dst (N := 61) rfl ?_); refine Kd.R_lit (Kd.int .u64) _ 22 ?hg (N := 61) ?hd (xs := ([0, 0] : List Int)) (inner := [.int .u64 0, .int .u64 0]) (ok := fun _ => True) (okp := fun _ => True) ?hr ?hp (fun _ hk => hk) trivial (Below.refl _ _) (Nat.le_refl _) (by simp) ?_; (case hd => rfl); (case hg => rfl); (case hr => exact gs_); (case hp => exact (Reps.one (show Kd.M (Kd.int .u64) _ _ _ 0 [.int .u64 0] from rfl) (Reps.one (show Kd.M (Kd.int .u64) _ _ _ 0 [.int .u64 0] from rfl) (Reps.none _ _)))); intro v282 w33 ho34 hb hg_ hnew_; clear hg_ hnew_; (first | rw [← Ny281.out] at ho34 | (simp only [Int.reduceToNat] at ho34; rw [← Ny281.out] at ho34)); have n0_ := Aside0.mk (Kd.R_elder' (rR_ HO280) (Kd.R_base ho34) hb); have n1_ := Aside0.mk (Kd.R_lower (Kd.R_new' ho34 (Kd.R_lt (rR_ HO280))) (below_size (bb_ HB))); have n2_ := Aside0.mk (below_step (bb_ HB) hb); clear HO280; clear HB; have HO280 := n0_; have HO283 := n1_; have HB := n2_; clear n0_ n1_ n2_; clear hb ho34; obtain ⟨Ao36, co36, eo36⟩ := Kd.R_slice HO283.out; subst eo36) | ((with_reducible refine gate_builtin (b := .append) (xs := #[.tmp 60, .tmp 61]) rfl ?_); at_builtin; refine Kd.R_append_rows (Kd.int .u64) (w0 := w) w.heap.size rfl (.tmp 60) (.tmp 61) 35 22 (.int .u64 0) 8 rfl Try.underlying35 info22 rfl (by decide) (by omega) v279 t278 y281 _ _ _ (fun k_ => some k_ ≠ (.slice Ao36 y281.length co36 : Value).ownBlock) (fun _ => False) rfl rfl ?aO ?aR (fun _ _ h => h) (fun _ h => h.elim) ?aF ?aB ?aS ?aL ?_; (case aR => exact cc_ (Kd.R_reads' HO283.out).2.2); (case aB => exact (bb_ HB)); (case aF => exact (fun k_ hk => Kd.fresh' (Kd.R_lt (rR_ HO283)) k_ hk)); (case aO => exact (by (with_reducible repeat (first | apply Kd.R_alloc | apply Kd.R_drewN | apply Kd.R_drew)); exact Kd.R_mono HO280.out (fun _ hk => hk.2))); (case aS => exact (below_size (bb_ HB))); (case aL => have := LMc25.out; omega); intro v285 w35 ho hb hg hat; rw [← Ny284.out] at ho; have n0_ := Aside0.mk (Kd.R_after (ok := (fun _ => True)) (rR_ HO283) hg hat); have n1_ := Aside0.mk (hb); have n2_ := Aside0.mk (ho); clear HO283; clear HB; clear HO280; have HO283 := n0_; have HB := n1_; have HO286 := n2_; clear n0_ n1_ n2_; clear ho hb hg hat) | ((with_reducible refine gate_callee (f := 100) rfl ?_); refine goesL_ (some 65) rfl rfl Try.func100 (by kernel_rfl) rfl #[.slice (some ad276) l1.length c1, .int .i64 t277] rfl mt_ ?_; (with_reducible refine (limb_Shift.calls kj2 _ _ l1 t277 t287 _ ?side1 ?side2 A26.out).mono ?_); (case side1 => exact cc_ (Kd.C_below HR1.out HB.out)); (case side2 => exact HC1.out); rintro e w37 ⟨v288, rfl, ho0, hb⟩; refine ⟨_, rfl, ?_⟩; have n0_ := Aside0.mk (Kd.R_elder' (rR_ HO283) (Kd.R_base ho0) hb); have n1_ := Aside0.mk (Kd.R_elder' (rR_ HO286) (Kd.R_base ho0) hb); have n2_ := Aside0.mk (Kd.R_lower (Kd.R_new' (Kd.R_new' ho0 (Kd.R_lt (rR_ HO283))) (Kd.R_lt (rR_ HO286))) (below_size (bb_ HB))); have n3_ := Aside0.mk (below_step (bb_ HB) hb); clear HO283; clear HO286; clear HB; have HO283 := n0_; have HO286 := n1_; have HO289 := n2_; have HB := n3_; clear n0_ n1_ n2_ n3_; (try clear hb); (try clear hb2); (try clear hk); (try clear hi); (try clear ho0); obtain ⟨Ao38, co38, eo38⟩ := Kd.R_slice HO286.out; subst eo38; obtain ⟨Ao39, co39, eo39⟩ := Kd.R_slice HO289.out; subst eo39) | ((with_reducible refine gate_dst (N := 71) rfl ?_); refine Kd.R_make (Kd.int .u64) _ 22 rfl (N := 71) rfl 35 _ _ rfl ji27 rfl rfl Try.underlying35 (.int .u64 0) 8 info22 rfl (by decide) (by omega) 0 (ok := fun _ => True) (okp := fun _ => True) rfl (fun _ hk => hk) trivial (of_decide_eq_true am_) (Nat.le_trans (Nat.mul_le_mul_right _ (of_decide_eq_true am_ : ji27.toNat ≤ 35184372088832)) (by omega)) (Below.refl _ _) (Nat.le_refl _) ?_; intro v291 w40 ho41 hb hg_ hnew_; clear hg_ hnew_; (first | rw [← Ny290.out] at ho41 | (simp only [Int.reduceToNat] at ho41; rw [← Ny290.out] at ho41)); have n0_ := Aside0.mk (Kd.R_elder' (rR_ HO283) (Kd.R_base ho41) hb); have n1_ := Aside0.mk (Kd.R_elder' (rR_ HO286) (Kd.R_base ho41) hb); have n2_ := Aside0.mk (Kd.R_elder' (rR_ HO289) (Kd.R_base ho41) hb); have n3_ := Aside0.mk (Kd.R_lower (Kd.R_new' (Kd.R_new' (Kd.R_new' ho41 (Kd.R_lt (rR_ HO283))) (Kd.R_lt (rR_ HO286))) (Kd.R_lt (rR_ HO289))) (below_size (bb_ HB))); have n4_ := Aside0.mk (below_step (bb_ HB) hb); clear HO283; clear HO286; clear HO289; clear HB; have HO283 := n0_; have HO286 := n1_; have HO289 := n2_; have HO292 := n3_; have HB := n4_; clear n0_ n1_ n2_ n3_ n4_; clear hb ho41; obtain ⟨Ao42, co42, eo42⟩ := Kd.R_slice HO292.out; subst eo42))
            go_loopg [14] kj2 (fun kq v14 w' => ∃ (x11_2 x13_2 : List Int) (x14_2 : Int), v14 = .int .i64 x14_2 ∧ Aside0 (quot_Div.l0 kq t277 x11_2 t287 x13_2 x14_2 = some (r1, r2, r3)) ∧ Aside0 (kq ≤ kj2) ∧ Aside0 (Kd.R (Kd.int .u64) 22 w' w.heap.size (fun k_ => some k_ ≠ ((.slice Ao39 t287.length co39) : Value).ownBlock ∧ some k_ ≠ ((.slice Ao42 y290.length co42) : Value).ownBlock) (.slice Ao38 y284.length co38) x11_2) ∧ Aside0 (Kd.R (Kd.int .u64) 22 w' w.heap.size (fun k_ => some k_ ≠ ((.slice Ao38 y284.length co38) : Value).ownBlock ∧ some k_ ≠ ((.slice Ao42 y290.length co42) : Value).ownBlock) (.slice Ao39 t287.length co39) t287) ∧ Aside0 (Kd.R (Kd.int .u64) 22 w' w.heap.size (fun k_ => some k_ ≠ ((.slice Ao38 y284.length co38) : Value).ownBlock ∧ some k_ ≠ ((.slice Ao39 t287.length co39) : Value).ownBlock) (.slice Ao42 y290.length co42) x13_2) ∧ Aside0 (Below w.heap.size w w'))
            case atStart => exact ⟨(y284), (y290), (wrap64 ((y290.length : Int) - 1)), sd_, H', ⟨Nat.le_refl _⟩, ⟨by (with_reducible repeat (first | apply Kd.R_alloc | apply Kd.R_drewN | apply Kd.R_drew)); exact Kd.R_mono HO286.out (fun _ hk => ⟨hk.1.2, hk.2⟩)⟩, ⟨by (with_reducible repeat (first | apply Kd.R_alloc | apply Kd.R_drewN | apply Kd.R_drew)); exact Kd.R_mono HO289.out (fun _ hk => ⟨hk.1.2, hk.2⟩)⟩, ⟨by (with_reducible repeat (first | apply Kd.R_alloc | apply Kd.R_drewN | apply Kd.R_drew)); exact Kd.R_mono HO292.out (fun _ hk => ⟨hk.1.2, hk.2⟩)⟩, ⟨by repeat (first | (with_reducible first | exact HB.out | apply below_alloc | apply pw_below_drewN | apply below_drew1) | exact HB.out)⟩⟩
            case round =>
             clear H'
             try clear c1
             try clear c2
             try clear p2
             try clear q2
             try clear hx2
             try clear qi2
             try clear c5
             try clear c6
             try clear p6
             try clear c7
             try clear c8
             try clear c8b0
             try clear c8b1
             try clear c8b2
             try clear c9
             try clear c9b0
             try clear c9b1
             try clear c10
             try clear c10b0
             try clear c10b1
             try clear c16
             try clear c16b0
             try clear c21
             try clear c21b0
             try clear c22
             try clear c22b0
             try clear c25
             try clear p26
             try clear q26
             try clear hx26
             try clear qi26
             try clear p27
             try clear q27
             try clear hx27
             try clear c28
             try clear c28b0
             try clear c28b1
             try clear c29
             try clear c29b0
             try clear c29b1
             try clear hx263_0
             try clear hx276_0
             try clear p2
             try clear p263
             try clear p276
             try clear q263
             try clear q276
             obtain ⟨x11_2, x13_2, x14_2, rfl, HA, HK2, HO_11, HO_12, HO_13, HB⟩ := hrel
             have hl11_2 := (Kd.R_reads' HO_11.out).1
             rw [hl11_2] at HO_11
             (try simp only [hl11_2])
             (try simp only [hl11_2] at HO_12)
             (try simp only [hl11_2] at HO_13)
             have hl13_2 := (Kd.R_reads' HO_13.out).1
             rw [hl13_2] at HO_13
             (try simp only [hl13_2])
             (try simp only [hl13_2] at HO_11)
             (try simp only [hl13_2] at HO_12)
             cases gk with
             | zero => exact absurd HA.out (by simp [quot_Div.l0])
             | succ k2 =>
              have H := HA.out
              clear HA
              simp only [quot_Div.l0] at H
              by_cases c43 : x14_2 ≥ 0
              ·
               rw [if_pos c43] at H
               have c43b0 : decide (0 ≤ x14_2) = true := decide_eq_true c43
               clear c43
               obtain ⟨ji44, hji44⟩ : ∃ j_ : Int, (mn (wrap64 ((wrap64 (x14_2 + (t287.length : Int))) + 1)) (x11_2.length : Int)) = j_ := ⟨_, rfl⟩
               replace H : (if 0 ≤ x14_2 then (if x14_2 ≤ (ji44) then (if (ji44) ≤ (x11_2.length : Int) then ((quot_digit.f k2 ((x11_2.take ((ji44) : Int).toNat).drop (x14_2 : Int).toNat) t287).bind fun t297 => (if x14_2 < (x13_2.length : Int) then (quot_Div.l0 k2 t277 (Go.splice x11_2 (x14_2 : Int).toNat t297.2) t287 (x13_2.set (x14_2 : Int).toNat t297.1) (wrap64 (x14_2 - 1))) else (none))) else (none)) else (none)) else (none)) = some (r1, r2, r3) := by first | (rw [hji44] at H; exact H) | (simp only [hji44] at H ⊢; exact H)
               have hji44_ : (if (x11_2.length : Int) < (wrap64 ((wrap64 (x14_2 + (t287.length : Int))) + 1)) then (x11_2.length : Int) else (wrap64 ((wrap64 (x14_2 + (t287.length : Int))) + 1))) = ji44 := hji44
               by_cases c45 : 0 ≤ x14_2
               ·
                rw [if_pos c45] at H
                have c45b0 := eq_true c45
                have c45b1 : decide (0 ≤ x14_2) = true := decide_eq_true c45
                clear c45
                by_cases c46 : x14_2 ≤ (ji44)
                ·
                 rw [if_pos c46] at H
                 have c46b0 := eq_true c46
                 have c46b1 : decide (x14_2 ≤ (ji44)) = true := decide_eq_true c46
                 clear c46
                 by_cases c47 : (ji44) ≤ (x11_2.length : Int)
                 ·
                  rw [if_pos c47] at H
                  have c47b0 := eq_true c47
                  have c47b1 : decide ((ji44) ≤ (x11_2.length : Int)) = true := decide_eq_true c47
                  clear c47
                  obtain ⟨y293, hy293⟩ : ∃ y_ : List Int, y_ = ((x11_2.take ((ji44) : Int).toNat).drop (x14_2 : Int).toNat) := ⟨_, rfl⟩
                  replace H : ((quot_digit.f k2 y293 t287).bind fun t297 => (if x14_2 < (x13_2.length : Int) then (quot_Div.l0 k2 t277 (Go.splice x11_2 (x14_2 : Int).toNat t297.2) t287 (x13_2.set (x14_2 : Int).toNat t297.1) (wrap64 (x14_2 - 1))) else (none))) = some (r1, r2, r3) := by first | (rw [hy293]; with_reducible exact H) | (have H2_ := (Option.bind_some _ _).symm.trans H; rw [hy293]; with_reducible exact H2_) | (have H2_ := (Option.bind_some _ _).symm.trans H; with_reducible exact H2_) | with_reducible exact H | (rw [hy293]; exact H) | exact H
                  have Ny293 := Aside0.mk hy293
                  clear hy293
                  replace H := Option.bind_eq_some_iff.mp H
                  obtain ⟨t297, A480, H⟩ := H
                  replace H : (if x14_2 < (x13_2.length : Int) then (quot_Div.l0 k2 t277 (Go.splice x11_2 (x14_2 : Int).toNat t297.2) t287 (x13_2.set (x14_2 : Int).toNat t297.1) (wrap64 (x14_2 - 1))) else (none)) = some (r1, r2, r3) := H
                  have A48 := Aside0.mk A480
                  clear A480
                  by_cases c49 : x14_2 < (x13_2.length : Int)
                  ·
                   rw [if_pos c49] at H
                   have c49b0 : decide (x14_2 < (x13_2.length : Int)) = true := decide_eq_true c49
                   (try simp only [hl13_2] at c49b0)
                   clear c49
                   obtain ⟨y298, hy298⟩ : ∃ y_ : List Int, y_ = (x13_2.set (x14_2 : Int).toNat t297.1) := ⟨_, rfl⟩
                   replace H : (quot_Div.l0 k2 t277 (Go.splice x11_2 (x14_2 : Int).toNat t297.2) t287 y298 (wrap64 (x14_2 - 1))) = some (r1, r2, r3) := by first | (rw [hy298]; with_reducible exact H) | (have H2_ := (Option.bind_some _ _).symm.trans H; rw [hy298]; with_reducible exact H2_) | (have H2_ := (Option.bind_some _ _).symm.trans H; with_reducible exact H2_) | with_reducible exact H | (rw [hy298]; exact H) | exact H
                   have Ny298 := Aside0.mk hy298
                   clear hy298
                   have H' := Aside0.mk H
                   clear H
                   have q51 : ((ji44) : Int) ≤ ((x11_2.length : Int) : Int) := of_decide_eq_true am_
                   obtain ⟨i051, hi051, _, hsz51, _⟩ := info_parts info22
                   have hroom51 : x11_2.length ≤ co38 := (Kd.R_reads' HO_11.out).2.1
                   have hC51 : Kd.C (Kd.int .u64) _ Ao38 x11_2.length x11_2 := (Kd.R_reads' HO_11.out).2.2
                   have ql51 : (x14_2 : Int) ≤ ((ji44) : Int) := of_decide_eq_true am_
                   have q051 : (0 : Int) ≤ (x14_2 : Int) := of_decide_eq_true am_
                   have hcut51 := cut_mid (P := Try.prog) 35 22 .i64 .i64 Try.underlying35 hi051 1 hsz51 Ao38 x11_2.length co38 x14_2 (ji44) q051 ql51 q51 hroom51
                   have hr51 := Kd.C_mid (lo := (x14_2 : Int).toNat) (hi := ((ji44) : Int).toNat) (c := co38) hC51 (by omega) (by omega) hroom51
                   obtain ⟨A51, hA51⟩ : ∃ A1, A1 = (if co38 = (x14_2 : Int).toNat then Ao38 else (Ao38 : Option Addr).map (·.add ((x14_2 : Int).toNat * 1))) := ⟨_, rfl⟩
                   obtain ⟨c51, hc51⟩ : ∃ c1, c1 = co38 - (x14_2 : Int).toNat := ⟨_, rfl⟩
                   have hy51 : y293.length = ((ji44) : Int).toNat - (x14_2 : Int).toNat := (by rw [Ny293.out, List.length_drop, List.length_take] <;> omega)
                   rw [show ((x11_2).take ((ji44) : Int).toNat).drop (x14_2 : Int).toNat = y293 from Ny293.out.symm] at hr51
                   replace hr51 : Kd.C (Kd.int .u64) _ A51 y293.length y293 := (by rw [hA51]; exact hr51)
                   rw [← hy51, ← hA51, ← hc51] at hcut51
                   have HR296 := Aside0.mk hr51
                   have HC296 := Aside0.mk (show y293.length ≤ c51 from by rw [hy51, hc51]; exact Nat.sub_le_sub_right (Nat.le_trans (by omega) hroom51) _)
                   clear hr51 hC51 hroom51 hi051 hsz51 hc51
                   have KY51 := Aside0.mk hy51
                   have KA51 := Aside0.mk hA51
                   clear hy51 hA51
                   have KL51 := Aside0.mk (show ((ji44) : Int).toNat ≤ x11_2.length from by omega)
                   have KM51 := Aside0.mk (show (x14_2 : Int).toNat ≤ ((ji44) : Int).toNat from by omega)
                   replace q51 := eq_true q51
                   obtain ⟨d_, u1_⟩ := t297
                   have hdl := quot_digit.len A48.out
                   have hdu := quot_digit.len2 A48.out
                   have hx11 : 0 < x11_2.length := by have := KL51.out; have := KM51.out; have := KY51.out; omega
                   obtain ⟨ga, ca, ea, hga0, hga1, -⟩ := Kd.R_form HO_11.out hx11
                   injection ea with ea_ en_ ec_
                   subst ea_
                   clear en_
                   subst ec_
                   obtain ⟨cur, hcur, hcl, hspl⟩ := R_spliced (i := (x14_2 : Int).toNat) HO_11.out
                   have hA_ : A51 = some ⟨ga, (x14_2 : Int).toNat, none⟩ := by rw [KA51.out, if_neg (by have := KL51.out; have := KM51.out; have := KY51.out; have := (Kd.R_reads' HO_11.out).2.1; omega), Option.map_some, Nat.mul_one, add_plain]
                   have hq13 : x14_2 < (x13_2.length : Int) := of_decide_eq_true am_
                   have hp13 : 0 ≤ x14_2 := of_decide_eq_true am_
                   obtain ⟨go_, co_, eo_, hgo0, hgo1, -⟩ := Kd.R_form HO_13.out (by omega)
                   injection eo_ with ea_ en_ ec_
                   subst ea_
                   clear en_
                   subst ec_
                   have hRW := HR296.out
                   rw [hA_] at hRW
                   have HFX := Aside0.mk (show (x14_2 : Int).toNat + y293.length ≤ x11_2.length ∧ (x14_2 : Int).toNat + y293.length ≤ cur.length from by have := KL51.out; have := KM51.out; have := KY51.out; omega)
                   have HCUR := Aside0.mk hcur
                   have HSPL := Aside0.mk hspl
                   have HRW := Aside0.mk hRW
                   have HDU := Aside0.mk hdu
                   have HGA := Aside0.mk (And.intro hga0 hgo0)
                   subst hA_
                   clear hcur hcl hspl hRW hdu hdl hx11 hga0 hga1 hgo0 hgo1 HR296
                   replace hq13 := eq_true hq13
                   replace hp13 := eq_true hp13
                   go_wp2_with fail
                   refine (quot_digit.calls k2 ga (x14_2 : Int).toNat _ _ _ y293 t287 u1_ d_ cur _ HRW.out HC296.out HCUR.out HFX.out.2 (Kd.R_reads' HO_12.out).2.2 (Kd.R_reads' HO_12.out).2.1 A48.out).mono ?_
                   rintro e w52 ⟨rfl, hg, hc⟩
                   have n0_ := Aside0.mk (HSPL.out w52 u1_ (by rw [HDU.out]; exact HFX.out.1) hc)
                   have n1_ := Aside0.mk (Kd.R_grown HO_12.out hg (fun k_ hk_ => hk_.1))
                   have n2_ := Aside0.mk (Kd.R_grown HO_13.out hg (fun k_ hk_ => hk_.1))
                   have n3_ := Aside0.mk (grown_below HB.out hg HGA.out.1)
                   clear HO_11 HO_12 HO_13 HB hg hc
                   have HO_11 := n0_
                   have HO_12 := n1_
                   have HO_13 := n2_
                   have HB := n3_
                   clear n0_ n1_ n2_ n3_
                   obtain ⟨hx50_0, hf50_0⟩ := Kd.R_celln 0 HO_13.out (x14_2 : Int) (of_decide_eq_true am_) (of_decide_eq_true am_)
                   have HP := Kd.R_putg HO_13.out (x14_2 : Int) d_
                   have HP_ := Aside0.mk HP.1
                   clear HP
                   go_wp2
                   (try simp only [← hl13_2])
                   (try simp only [← hl11_2])
                   go_roundg k2
                   case measure => have := HJ2.out; have := HK2.out; omega
                   case rel =>
                    refine ⟨_, _, _, rfl, H', ⟨by have := HJ2.out; have := HK2.out; omega⟩, ⟨?_⟩, ⟨?_⟩, ⟨?_⟩, ⟨below_set HB.out HGA.out.2⟩⟩
                    ·
                     (try simp only [hl13_2, hl11_2]); exact Kd.R_far HO_11.out (fun k_ hk_ e_ => hk_.2 (by rw [e_]; rfl)) _
                    ·
                     (try simp only [hl13_2, hl11_2]); exact Kd.R_far HO_12.out (fun k_ hk_ e_ => hk_.2 (by rw [e_]; rfl)) _
                    ·
                     (try simp only [hl13_2, hl11_2]); rw [Ny298.out]; exact HP_.out
                  ·
                   rw [if_neg c49] at H
                   exact absurd H (by simp)
                 ·
                  rw [if_neg c47] at H
                  exact absurd H (by simp)
                ·
                 rw [if_neg c46] at H
                 exact absurd H (by simp)
               ·
                rw [if_neg c45] at H
                exact absurd H (by simp)
              ·
               rw [if_neg c43] at H
               have c43b0 : decide (0 ≤ x14_2) = false := decide_eq_false c43
               clear c43
               replace H := Option.bind_eq_some_iff.mp H
               obtain ⟨t299, A550, H⟩ := H
               replace H : ((limb_Shift.f k2 x11_2 (wrap64 (-t277))).bind fun t302 => (some (t299, t302, 0))) = some (r1, r2, r3) := H
               have A55 := Aside0.mk A550
               clear A550
               replace H := Option.bind_eq_some_iff.mp H
               obtain ⟨t302, A560, H⟩ := H
               replace H : (some (t299, t302, 0)) = some (r1, r2, r3) := H
               have A56 := Aside0.mk A560
               clear A560
               simp only [Option.some.injEq, Prod.mk.injEq] at H
               obtain ⟨rfl, rfl, rfl⟩ := H
               go_wp2_with (first | ((with_reducible refine gate_callee (f := 96) rfl ?_); refine goesL_ (some 96) rfl rfl Try.func96 (by kernel_rfl) rfl #[.slice Ao42 x13_2.length co42] rfl mt_ ?_; (with_reducible refine (limb_Trim.calls k2 _ _ x13_2 t299 _ ?side1 ?side2 A55.out).mono ?_); (case side1 => exact cc_ (Kd.R_reads' HO_13.out).2.2); (case side2 => exact (Kd.R_reads' HO_13.out).2.1); rintro e w57 ⟨v300, rfl, ho0, hb⟩; refine ⟨_, rfl, ?_⟩; have n0_ := Aside0.mk (Kd.R_elder' (rR_ HO_11) (Kd.R_base ho0) hb); have n1_ := Aside0.mk (Kd.R_elder' (rR_ HO_12) (Kd.R_base ho0) hb); have n2_ := Aside0.mk (Kd.R_elder' (rR_ HO_13) (Kd.R_base ho0) hb); have n3_ := Aside0.mk (Kd.R_lower (Kd.R_new' (Kd.R_new' (Kd.R_new' ho0 (Kd.R_lt (rR_ HO_11))) (Kd.R_lt (rR_ HO_12))) (Kd.R_lt (rR_ HO_13))) (below_size (bb_ HB))); have n4_ := Aside0.mk (below_step (bb_ HB) hb); clear HO_11; clear HO_12; clear HO_13; clear HB; have HO_11 := n0_; have HO_12 := n1_; have HO_13 := n2_; have HO301 := n3_; have HB := n4_; clear n0_ n1_ n2_ n3_ n4_; (try clear hb); (try clear hb2); (try clear hk); (try clear hi); (try clear ho0)) | ((with_reducible refine gate_callee (f := 100) rfl ?_); refine goesL_ (some 100) rfl rfl Try.func100 (by kernel_rfl) rfl #[.slice Ao38 x11_2.length co38, .int .i64 (wrap64 (-t277))] rfl mt_ ?_; (with_reducible refine (limb_Shift.calls k2 _ _ x11_2 (wrap64 (-t277)) t302 _ ?side1 ?side2 A56.out).mono ?_); (case side1 => exact cc_ (Kd.R_reads' HO_11.out).2.2); (case side2 => exact (Kd.R_reads' HO_11.out).2.1); rintro e w58 ⟨v303, rfl, ho0, hb⟩; refine ⟨_, rfl, ?_⟩; have n0_ := Aside0.mk (Kd.R_elder' (rR_ HO_11) (Kd.R_base ho0) hb); have n1_ := Aside0.mk (Kd.R_elder' (rR_ HO_12) (Kd.R_base ho0) hb); have n2_ := Aside0.mk (Kd.R_elder' (rR_ HO_13) (Kd.R_base ho0) hb); have n3_ := Aside0.mk (Kd.R_elder' (rR_ HO301) (Kd.R_base ho0) hb); have n4_ := Aside0.mk (Kd.R_lower (Kd.R_new' (Kd.R_new' (Kd.R_new' (Kd.R_new' ho0 (Kd.R_lt (rR_ HO_11))) (Kd.R_lt (rR_ HO_12))) (Kd.R_lt (rR_ HO_13))) (Kd.R_lt (rR_ HO301))) (below_size (bb_ HB))); have n5_ := Aside0.mk (below_step (bb_ HB) hb); clear HO_11; clear HO_12; clear HO_13; clear HO301; clear HB; have HO_11 := n0_; have HO_12 := n1_; have HO_13 := n2_; have HO301 := n3_; have HO304 := n4_; have HB := n5_; clear n0_ n1_ n2_ n3_ n4_ n5_; (try clear hb); (try clear hb2); (try clear hk); (try clear hi); (try clear ho0)))
               go_ret3
               exact ⟨_, _, by first | rfl | (simp [errW_none, errW_some] <;> rfl) | (simp only [← hji20, ← hji27]; first | rfl | (simp [errW_none, errW_some] <;> rfl)) | (simp [*, errW_none, errW_some] <;> rfl), by (with_reducible repeat (first | apply Kd.R_alloc | apply Kd.R_drewN | apply Kd.R_drew)); exact Kd.R_mono HO301.out (fun _ hk => hk.2), by (with_reducible repeat (first | apply Kd.R_alloc | apply Kd.R_drewN | apply Kd.R_drew)); exact Kd.R_mono HO304.out (fun _ hk => hk.2), by repeat (first | (with_reducible first | exact HB.out | apply below_alloc | apply pw_below_drewN | apply below_drew1) | exact HB.out)⟩
           ·
            rw [if_neg c29] at H
            exact absurd H (by simp)
          ·
           rw [if_neg c28] at H
           exact absurd H (by simp)
         ·
          rw [if_neg c25] at H
          exact absurd H (by simp)
        ·
         rw [if_neg c22] at H
         exact absurd H (by simp)
       ·
        rw [if_neg c21] at H
        exact absurd H (by simp)

/-! ### quot_Gcd: function 71 -/
mutual
def quot_Gcd.j0 : Nat → List Int → List Int → Bool → Option (List Int × Int)
 | 0, _, _, _ => none
 | k + 1, x0, x1, x16 => if x16 = true then (some (([] : List Int), 1)) else ((limb_Trim.f k x0).bind fun t307 => ((limb_Trim.f k x1).bind fun t310 => (quot_Gcd.l0 k t307 t310)))
def quot_Gcd.l0 : Nat → List Int → List Int → Option (List Int × Int)
 | 0, _, _ => none
 | k + 1, x0, x1 => if (x1.length : Int) > 0 then ((quot_Div.f k x0 x1).bind fun bt313 => (quot_Gcd.l0 k x1 bt313.2.1)) else (some (x0, 0))
end
def quot_Gcd.f (k : Nat) (l0 : List Int) (l1 : List Int) : Option (List Int × Int) := (nat_May.f l0).bind fun t305 => (if t305 = true then ((nat_May.f l1).bind fun t306 => (quot_Gcd.j0 k l0 l1 (!t306))) else (quot_Gcd.j0 k l0 l1 true))
theorem quot_Gcd.mono_l : ∀ k, (∀ y0 y1 y2, LeO (quot_Gcd.j0 k y0 y1 y2) (quot_Gcd.j0 (k + 1) y0 y1 y2)) ∧ (∀ y0 y1, LeO (quot_Gcd.l0 k y0 y1) (quot_Gcd.l0 (k + 1) y0 y1))
 | 0 => ⟨fun _ _ _ r h => by simp [quot_Gcd.j0] at h, fun _ _ r h => by simp [quot_Gcd.l0] at h⟩
 | k + 1 => by
  obtain ⟨ih0, ih1⟩ := quot_Gcd.mono_l k
  refine ⟨?_, ?_⟩
  ·
   intro y0 y1 y2
   unfold quot_Gcd.j0
   repeat' first
   | (with_reducible exact ih0 _ _ _)
   | (with_reducible exact ih1 _ _)
   | (with_reducible exact limb_Trim.mono _ _)
   | (with_reducible exact quot_Div.mono _ _ _)
   | (with_reducible exact LeO.refl _)
   | (with_reducible exact LeO.none _)
   | (with_reducible refine LeO.ite ?_ ?_)
   | (with_reducible refine LeO.bind ?_ (fun _ => ?_))
  ·
   intro y0 y1
   unfold quot_Gcd.l0
   repeat' first
   | (with_reducible exact ih0 _ _ _)
   | (with_reducible exact ih1 _ _)
   | (with_reducible exact limb_Trim.mono _ _)
   | (with_reducible exact quot_Div.mono _ _ _)
   | (with_reducible exact LeO.refl _)
   | (with_reducible exact LeO.none _)
   | (with_reducible refine LeO.ite ?_ ?_)
   | (with_reducible refine LeO.bind ?_ (fun _ => ?_))
theorem quot_Gcd.mono : ∀ a0 a1 k, LeO (quot_Gcd.f k a0 a1) (quot_Gcd.f (k + 1) a0 a1) := by
 intro a0 a1 k
 obtain ⟨ih0, ih1⟩ := quot_Gcd.mono_l k
 unfold quot_Gcd.f
 repeat' first
   | (with_reducible exact ih0 _ _ _)
   | (with_reducible exact ih1 _ _)
   | (with_reducible exact limb_Trim.mono _ _)
   | (with_reducible exact quot_Div.mono _ _ _)
   | (with_reducible exact LeO.refl _)
   | (with_reducible exact LeO.none _)
   | (with_reducible refine LeO.ite ?_ ?_)
   | (with_reducible refine LeO.bind ?_ (fun _ => ?_))
set_option maxHeartbeats 8000000 in
set_option maxRecDepth 100000 in
theorem quot_Gcd.calls (k : Nat) (A0 : Option Addr) (c0 : Nat) (l0 : List Int) (A1 : Option Addr) (c1 : Nat) (l1 : List Int) (r1 : List Int) (r2 : Int) (w : World) (hr0 : Kd.C (Kd.int .u64) w A0 l0.length l0) (hc0 : l0.length ≤ c0) (hr1 : Kd.C (Kd.int .u64) w A1 l1.length l1) (hc1 : l1.length ≤ c1) (h : quot_Gcd.f k l0 l1 = some (r1, r2)) :
  Calls Try.prog 71 #[.slice A0 l0.length c0, .slice A1 l1.length c1] w fun e w' => ∃ v0_ : Value, e = .returned (.tuple #[v0_, .int .i64 r2]) ∧ Kd.R (Kd.int .u64) 22 w' w.heap.size (fun _ => True) v0_ r1 ∧ Below w.heap.size w w' := by
 have HR0 := Aside0.mk hr0
 have HC0 := Aside0.mk hc0
 clear hr0 hc0
 have HR1 := Aside0.mk hr1
 have HC1 := Aside0.mk hc1
 clear hr1 hc1
 have HB := Aside0.mk (Below.refl w.heap.size w)
 have H : ((nat_May.f l0).bind fun t305 => (if t305 = true then ((nat_May.f l1).bind fun t306 => (quot_Gcd.j0 k l0 l1 (!t306))) else (quot_Gcd.j0 k l0 l1 true))) = some (r1, r2) := h
 clear h
 have HC3 := Aside0.mk H
 clear H
 go_enter Try.func71, Try.ntmps71
 go_upto_region 1 with (fail)
 go_cut [16] (fun v16 wc => ∃ (kq : Nat) (x16_2 : Bool), v16 = .bool x16_2 ∧ Aside0 (quot_Gcd.j0 kq l0 l1 x16_2 = some (r1, r2)) ∧ Aside0 (kq ≤ k) ∧ Aside0 (Below w.heap.size w wc))
 case first =>
  have H := HC3.out
  clear HC3
  replace H := Option.bind_eq_some_iff.mp H
  obtain ⟨t305, A40, H⟩ := H
  replace H : (if t305 = true then ((nat_May.f l1).bind fun t306 => (quot_Gcd.j0 k l0 l1 (!t306))) else (quot_Gcd.j0 k l0 l1 true)) = some (r1, r2) := H
  have A4 := Aside0.mk A40
  clear A40
  by_cases c5 : t305 = true
  ·
   subst c5
   have H1 : ((nat_May.f l1).bind fun t306 => (quot_Gcd.j0 k l0 l1 (!t306))) = some (r1, r2) := by rw [if_pos rfl] at H; exact H
   clear H
   have H := H1
   clear H1
   replace H := Option.bind_eq_some_iff.mp H
   obtain ⟨t306, A60, H⟩ := H
   replace H : (quot_Gcd.j0 k l0 l1 (!t306)) = some (r1, r2) := H
   have A6 := Aside0.mk A60
   clear A60
   have H' := Aside0.mk H
   clear H
   go_wp2_with (first | ((with_reducible refine gate_callee (f := 64) rfl ?_); refine goesL_ (some 10) rfl rfl Try.func64 (by kernel_rfl) rfl #[.slice A0 l0.length c0] rfl mt_ ?_; (with_reducible refine (nat_May.calls _ _ l0 true _ ?side1 ?side2 A4.out).mono ?_); (case side1 => exact cc_ (Kd.C_below HR0.out HB.out)); (case side2 => exact HC0.out); rintro e w' ⟨rfl, ⟨nd, rfl⟩⟩; refine ⟨_, rfl, ?_⟩) | ((with_reducible refine gate_dst (N := 14) rfl ?_); refine gate_guard (by first | rfl | kernel_rfl) ?_; dsimp only; (with_reducible refine gate_callee (f := 64) rfl ?_); refine goesL_ (some 14) rfl rfl Try.func64 (by kernel_rfl) rfl #[.slice A1 l1.length c1] rfl mt_ ?_; (with_reducible refine (nat_May.calls _ _ l1 t306 _ ?side1 ?side2 A6.out).mono ?_); (case side1 => repeat (first | exact (Kd.C_below HR1.out (bb_ HB)) | (with_reducible refine Kd.C_alloc ?_ _) | (with_reducible refine Kd.C_drewN ?_ _) | (with_reducible refine Kd.C_drew ?_))); (case side2 => exact HC1.out); rintro e w' ⟨rfl, ⟨nd, rfl⟩⟩; refine ⟨_, rfl, ?_⟩))
   go_meet
   case rel => exact ⟨_, (!t306), sd_, H', ⟨by first | omega | exact Nat.le_refl _⟩, ⟨by repeat (first | (with_reducible first | exact HB.out | apply below_alloc | apply pw_below_drewN | apply below_drew1) | exact HB.out)⟩⟩
  ·
   replace c5 := Bool.eq_false_iff.mpr c5
   subst c5
   have H1 : (quot_Gcd.j0 k l0 l1 true) = some (r1, r2) := by rw [if_neg (show ¬ (false = true) by decide)] at H; exact H
   clear H
   have H := H1
   clear H1
   have H' := Aside0.mk H
   clear H
   go_wp2_with (first | ((with_reducible refine gate_callee (f := 64) rfl ?_); refine goesL_ (some 10) rfl rfl Try.func64 (by kernel_rfl) rfl #[.slice A0 l0.length c0] rfl mt_ ?_; (with_reducible refine (nat_May.calls _ _ l0 false _ ?side1 ?side2 A4.out).mono ?_); (case side1 => exact cc_ (Kd.C_below HR0.out HB.out)); (case side2 => exact HC0.out); rintro e w' ⟨rfl, ⟨nd, rfl⟩⟩; refine ⟨_, rfl, ?_⟩))
   go_meet
   case rel => exact ⟨_, (true), sd_, H', ⟨by first | omega | exact Nat.le_refl _⟩, ⟨by repeat (first | (with_reducible first | exact HB.out | apply below_alloc | apply pw_below_drewN | apply below_drew1) | exact HB.out)⟩⟩
 case rest =>
  clear HC3
  try clear c1
  try clear p2
  try clear c5
  try clear c6
  obtain ⟨kq, x16_2, rfl, HA, HJ2, HB⟩ := hcut
  cases kq with
  | zero => exact absurd HA.out (by simp [quot_Gcd.j0])
  | succ kj2 =>
   have H := HA.out
   clear HA
   simp only [quot_Gcd.j0] at H
   by_cases c7 : x16_2 = true
   ·
    subst c7
    have H1 : (some (([] : List Int), 1)) = some (r1, r2) := by rw [if_pos rfl] at H; exact H
    clear H
    have H := H1
    clear H1
    simp only [Option.some.injEq, Prod.mk.injEq] at H
    obtain ⟨rfl, rfl⟩ := H
    go_wp2
    go_ret2
    exact ⟨_, by first | rfl | (simp [errW_none, errW_some] <;> rfl) | (simp [*, errW_none, errW_some] <;> rfl), by first | exact Kd.R_nil _ _ _ _ _ | exact Kd.N_nil _ _ _ _ _ | exact Kd.V_nil _ _ _ _ _ | exact Kd.Q_nil _ _ _ _ _ | exact Kd.S_nil _ _ _ _ _, by repeat (first | (with_reducible first | exact HB.out | apply below_alloc | apply pw_below_drewN | apply below_drew1) | exact HB.out)⟩
   ·
    replace c7 := Bool.eq_false_iff.mpr c7
    subst c7
    have H1 : ((limb_Trim.f kj2 l0).bind fun t307 => ((limb_Trim.f kj2 l1).bind fun t310 => (quot_Gcd.l0 kj2 t307 t310))) = some (r1, r2) := by rw [if_neg (show ¬ (false = true) by decide)] at H; exact H
    clear H
    have H := H1
    clear H1
    replace H := Option.bind_eq_some_iff.mp H
    obtain ⟨t307, A80, H⟩ := H
    replace H : ((limb_Trim.f kj2 l1).bind fun t310 => (quot_Gcd.l0 kj2 t307 t310)) = some (r1, r2) := H
    have A8 := Aside0.mk A80
    clear A80
    replace H := Option.bind_eq_some_iff.mp H
    obtain ⟨t310, A90, H⟩ := H
    replace H : (quot_Gcd.l0 kj2 t307 t310) = some (r1, r2) := H
    have A9 := Aside0.mk A90
    clear A90
    have H' := Aside0.mk H
    clear H
    go_wp2_with (first | ((with_reducible refine gate_callee (f := 96) rfl ?_); refine goesL_ (some 18) rfl rfl Try.func96 (by kernel_rfl) rfl #[.slice A0 l0.length c0] rfl mt_ ?_; (with_reducible refine (limb_Trim.calls kj2 _ _ l0 t307 _ ?side1 ?side2 A8.out).mono ?_); (case side1 => exact cc_ (Kd.C_below HR0.out HB.out)); (case side2 => exact HC0.out); rintro e w10 ⟨v308, rfl, ho0, hb⟩; refine ⟨_, rfl, ?_⟩; have n0_ := Aside0.mk (Kd.R_lower ho0 (below_size (bb_ HB))); have n1_ := Aside0.mk (below_step (bb_ HB) hb); clear HB; have HO309 := n0_; have HB := n1_; clear n0_ n1_; (try clear hb); (try clear hb2); (try clear hk); (try clear hi); (try clear ho0)) | ((with_reducible refine gate_callee (f := 96) rfl ?_); refine goesL_ (some 20) rfl rfl Try.func96 (by kernel_rfl) rfl #[.slice A1 l1.length c1] rfl mt_ ?_; (with_reducible refine (limb_Trim.calls kj2 _ _ l1 t310 _ ?side1 ?side2 A9.out).mono ?_); (case side1 => exact cc_ (Kd.C_below HR1.out HB.out)); (case side2 => exact HC1.out); rintro e w11 ⟨v311, rfl, ho0, hb⟩; refine ⟨_, rfl, ?_⟩; have n0_ := Aside0.mk (Kd.R_elder' (rR_ HO309) (Kd.R_base ho0) hb); have n1_ := Aside0.mk (Kd.R_lower (Kd.R_new' ho0 (Kd.R_lt (rR_ HO309))) (below_size (bb_ HB))); have n2_ := Aside0.mk (below_step (bb_ HB) hb); clear HO309; clear HB; have HO309 := n0_; have HO312 := n1_; have HB := n2_; clear n0_ n1_ n2_; (try clear hb); (try clear hb2); (try clear hk); (try clear hi); (try clear ho0)))
    go_loopg [0, 1] kj2 (fun kq v0 v1 w' => ∃ (x0_2 : List Int) (x1_2 : List Int), Aside0 (quot_Gcd.l0 kq x0_2 x1_2 = some (r1, r2)) ∧ Aside0 (kq ≤ kj2) ∧ Aside0 (Kd.R (Kd.int .u64) 22 w' w.heap.size (fun k_ => some k_ ≠ (v1 : Value).ownBlock) v0 x0_2) ∧ Aside0 (Kd.R (Kd.int .u64) 22 w' w.heap.size (fun k_ => some k_ ≠ (v0 : Value).ownBlock) v1 x1_2) ∧ Aside0 (Below w.heap.size w w'))
    case atStart => exact ⟨(t307), (t310), H', ⟨Nat.le_refl _⟩, ⟨by (with_reducible repeat (first | apply Kd.R_alloc | apply Kd.R_drewN | apply Kd.R_drew)); exact Kd.R_mono HO309.out (fun _ hk => hk.2)⟩, ⟨by (with_reducible repeat (first | apply Kd.R_alloc | apply Kd.R_drewN | apply Kd.R_drew)); exact Kd.R_mono HO312.out (fun _ hk => hk.2)⟩, ⟨by repeat (first | (with_reducible first | exact HB.out | apply below_alloc | apply pw_below_drewN | apply below_drew1) | exact HB.out)⟩⟩
    case round =>
     clear H'
     try clear c1
     try clear p2
     try clear c5
     try clear c6
     try clear c7
     try clear c9
     try clear p2
     obtain ⟨x0_2, x1_2, HA, HK2, HO_0, HO_1, HB⟩ := hrel
     cases gk with
     | zero => exact absurd HA.out (by simp [quot_Gcd.l0])
     | succ k2 =>
      have H := HA.out
      clear HA
      simp only [quot_Gcd.l0] at H
      by_cases c12 : (x1_2.length : Int) > 0
      ·
       rw [if_pos c12] at H
       have c12b0 : decide (0 < (x1_2.length : Int)) = true := decide_eq_true c12
       have c12b1 : decide (0 < x1_2.length) = true := decide_eq_true (by omega)
       clear c12
       replace H := Option.bind_eq_some_iff.mp H
       obtain ⟨⟨t313, t314, t315⟩, A130, H⟩ := H
       replace H : (quot_Gcd.l0 k2 x1_2 t314) = some (r1, r2) := H
       have A13 := Aside0.mk A130
       clear A130
       have H' := Aside0.mk H
       clear H
       obtain ⟨Ao14, co14, eo14⟩ := Kd.R_slice HO_1.out
       subst eo14
       obtain ⟨Ao15, co15, eo15⟩ := Kd.R_slice HO_0.out
       subst eo15
       go_wp2_with (first | ((with_reducible refine gate_callee (f := 72) rfl ?_); refine goesL_ (some 27) rfl rfl Try.func72 (by kernel_rfl) rfl #[.slice Ao15 x0_2.length co15, .slice Ao14 x1_2.length co14] rfl mt_ ?_; (with_reducible refine (quot_Div.calls k2 _ _ x0_2 _ _ x1_2 t313 t314 t315 _ ?side1 ?side2 ?side3 ?side4 A13.out).mono ?_); (case side1 => exact cc_ (Kd.R_reads' HO_0.out).2.2); (case side2 => exact (Kd.R_reads' HO_0.out).2.1); (case side3 => exact cc_ (Kd.R_reads' HO_1.out).2.2); (case side4 => exact (Kd.R_reads' HO_1.out).2.1); rintro e w16 ⟨v316, v318, rfl, ho0, ho1, hb⟩; refine ⟨_, rfl, ?_⟩; have n0_ := Aside0.mk (Kd.R_mono (Kd.R_told (Kd.R_told (Kd.R_old (rR_ HO_0) hb) (Kd.R_base ho0)) (Kd.R_base ho1)) (fun _ h_ => h_.1)); have n1_ := Aside0.mk (Kd.R_mono (Kd.R_told (Kd.R_told (Kd.R_old (rR_ HO_1) hb) (Kd.R_base ho0)) (Kd.R_base ho1)) (fun _ h_ => h_.1)); have n2_ := Aside0.mk (Kd.R_lower (Kd.R_new' (Kd.R_new' ho0 (Kd.R_lt (rR_ HO_0))) (Kd.R_lt (rR_ HO_1))) (below_size (bb_ HB))); have n3_ := Aside0.mk (Kd.R_lower (Kd.R_new' (Kd.R_new' ho1 (Kd.R_lt (rR_ HO_0))) (Kd.R_lt (rR_ HO_1))) (below_size (bb_ HB))); have n4_ := Aside0.mk (below_step (bb_ HB) hb); clear HO_0; clear HO_1; clear HB; have HO_0 := n0_; have HO_1 := n1_; have HO317 := n2_; have HO319 := n3_; have HB := n4_; clear n0_ n1_ n2_ n3_ n4_; (try clear hb); (try clear hb2); (try clear hk); (try clear hi); (try clear ho0); (try clear ho1)))
       go_roundg k2
       case measure => have := HJ2.out; have := HK2.out; omega
       case rel => exact ⟨(x1_2), (t314), H', ⟨by have := HJ2.out; have := HK2.out; omega⟩, ⟨by (with_reducible repeat (first | apply Kd.R_alloc | apply Kd.R_drewN | apply Kd.R_drew)); exact Kd.R_mono HO_1.out (fun _ hk => hk.2)⟩, ⟨by (with_reducible repeat (first | apply Kd.R_alloc | apply Kd.R_drewN | apply Kd.R_drew)); exact Kd.R_mono HO319.out (fun _ hk => hk.2)⟩, ⟨by repeat (first | (with_reducible first | exact HB.out | apply below_alloc | apply pw_below_drewN | apply below_drew1) | exact HB.out)⟩⟩
      ·
       rw [if_neg c12] at H
       have c12b0 : decide (0 < (x1_2.length : Int)) = false := decide_eq_false c12
       have c12b1 : decide (0 < x1_2.length) = false := decide_eq_false (by omega)
       clear c12
       simp only [Option.some.injEq, Prod.mk.injEq] at H
       obtain ⟨rfl, rfl⟩ := H
       obtain ⟨Ao17, co17, eo17⟩ := Kd.R_slice HO_1.out
       subst eo17
       go_wp2
       go_ret2
       exact ⟨_, by first | rfl | (simp [errW_none, errW_some] <;> rfl) | (simp [*, errW_none, errW_some] <;> rfl), by (with_reducible repeat (first | apply Kd.R_alloc | apply Kd.R_drewN | apply Kd.R_drew)); exact Kd.R_mono HO_0.out (fun _ hk => trivial), by repeat (first | (with_reducible first | exact HB.out | apply below_alloc | apply pw_below_drewN | apply below_drew1) | exact HB.out)⟩

/-! ### ratio_Make: function 24 -/
def ratio_Make.f (k : Nat) (a0 : Bool) (l1 : List Int) (l2 : List Int) : Option (Bool × List Int × List Int × Int) := (quot_Gcd.f k l1 l2).bind fun bt321 => (if bt321.2 = 0 then (if (l2.length : Int) = 0 then (some (false, ([] : List Int), ([] : List Int), 30)) else ((quot_Div.f k l1 bt321.1).bind fun bt325 => ((quot_Div.f k l2 bt321.1).bind fun bt332 => (if a0 = true then ((ratio_Zero.f false bt325.1 bt332.1).bind fun t339 => (some (!t339, bt325.1, bt332.1, 0))) else (some (false, bt325.1, bt332.1, 0)))))) else (some (false, ([] : List Int), ([] : List Int), bt321.2)))
theorem ratio_Make.mono : ∀ a0 a1 a2 k, LeO (ratio_Make.f k a0 a1 a2) (ratio_Make.f (k + 1) a0 a1 a2) := by
 intro a0 a1 a2 k
 unfold ratio_Make.f
 repeat' first
   | (with_reducible exact quot_Div.mono _ _ _)
   | (with_reducible exact quot_Gcd.mono _ _ _)
   | (with_reducible exact LeO.refl _)
   | (with_reducible exact LeO.none _)
   | (with_reducible refine LeO.ite ?_ ?_)
   | (with_reducible refine LeO.bind ?_ (fun _ => ?_))
set_option maxHeartbeats 8000000 in
set_option maxRecDepth 100000 in
theorem ratio_Make.calls (k : Nat) (a0 : Bool) (A1 : Option Addr) (c1 : Nat) (l1 : List Int) (A2 : Option Addr) (c2 : Nat) (l2 : List Int) (r1 : Bool) (r2 : List Int) (r3 : List Int) (r4 : Int) (w : World) (hr1 : Kd.C (Kd.int .u64) w A1 l1.length l1) (hc1 : l1.length ≤ c1) (hr2 : Kd.C (Kd.int .u64) w A2 l2.length l2) (hc2 : l2.length ≤ c2) (h : ratio_Make.f k a0 l1 l2 = some (r1, r2, r3, r4)) :
  Calls Try.prog 24 #[.bool a0, .slice A1 l1.length c1, .slice A2 l2.length c2] w fun e w' => ∃ v1_ v2_ : Value, e = .returned (.tuple #[.agg #[.bool r1, v1_, v2_], .int .i64 r4]) ∧ Kd.R (Kd.int .u64) 22 w' w.heap.size (fun k_ => some k_ ≠ (v2_ : Value).ownBlock) v1_ r2 ∧ Kd.R (Kd.int .u64) 22 w' w.heap.size (fun k_ => some k_ ≠ (v1_ : Value).ownBlock) v2_ r3 ∧ Below w.heap.size w w' := by
 have hu44 := Try.underlying44
 have HR1 := Aside0.mk hr1
 have HC1 := Aside0.mk hc1
 clear hr1 hc1
 have HR2 := Aside0.mk hr2
 have HC2 := Aside0.mk hc2
 clear hr2 hc2
 have HB := Aside0.mk (Below.refl w.heap.size w)
 have H : ((quot_Gcd.f k l1 l2).bind fun bt321 => (if bt321.2 = 0 then (if (l2.length : Int) = 0 then (some (false, ([] : List Int), ([] : List Int), 30)) else ((quot_Div.f k l1 bt321.1).bind fun bt325 => ((quot_Div.f k l2 bt321.1).bind fun bt332 => (if a0 = true then ((ratio_Zero.f false bt325.1 bt332.1).bind fun t339 => (some (!t339, bt325.1, bt332.1, 0))) else (some (false, bt325.1, bt332.1, 0)))))) else (some (false, ([] : List Int), ([] : List Int), bt321.2)))) = some (r1, r2, r3, r4) := h
 clear h
 replace H := Option.bind_eq_some_iff.mp H
 obtain ⟨⟨t321, t322⟩, A40, H⟩ := H
 replace H : (if t322 = 0 then (if (l2.length : Int) = 0 then (some (false, ([] : List Int), ([] : List Int), 30)) else ((quot_Div.f k l1 t321).bind fun bt325 => ((quot_Div.f k l2 t321).bind fun bt332 => (if a0 = true then ((ratio_Zero.f false bt325.1 bt332.1).bind fun t339 => (some (!t339, bt325.1, bt332.1, 0))) else (some (false, bt325.1, bt332.1, 0)))))) else (some (false, ([] : List Int), ([] : List Int), t322))) = some (r1, r2, r3, r4) := H
 have A4 := Aside0.mk A40
 clear A40
 by_cases c5 : t322 = 0
 ·
  rw [if_pos c5] at H
  have c5b0 : (t322 == 0) = true := beq_iff_eq.mpr c5
  have c5b1 : (t322 != 0) = false := bne_eq_false_iff_eq.mpr c5
  clear c5
  by_cases c6 : (l2.length : Int) = 0
  ·
   rw [if_pos c6] at H
   have c6b0 : ((l2.length : Int) == 0) = true := beq_iff_eq.mpr c6
   have c6b1 : ((l2.length : Int) != 0) = false := bne_eq_false_iff_eq.mpr c6
   clear c6
   simp only [Option.some.injEq, Prod.mk.injEq] at H
   obtain ⟨rfl, rfl, rfl, rfl⟩ := H
   go_enter Try.func24, Try.ntmps24
   go_wp2_with (first | ((with_reducible refine gate_dst (N := 6) rfl ?_); refine box_event ?hg (N := 6) ?hd (cs := #[.bool false, .slice none 0 0, .slice none 0 0]) (t := 44) ?hr ?_; (case hd => rfl); (case hg => rfl); (case hr => exact gs_); intro gb320 hg w7 hbox hb; have n0_ := Aside0.mk (below_step (bb_ HB) hb); have n1_ := Aside0.mk (hbox); have n2_ := Aside0.mk ((by rw [hg]; exact (below_size (bb_ HB)) : w.heap.size ≤ gb320)); have n3_ := Aside0.mk ((by rw [hg]; exact (below_size (bb_ HB)) : w.heap.size ≤ gb320)); clear HB; have HB := n0_; have BK320 := n1_; have GW320 := n2_; have GE320 := n3_; clear n0_ n1_ n2_ n3_; clear hb hbox hg) | ((with_reducible refine gate_callee (f := 71) rfl ?_); refine goesL_ (some 12) rfl rfl Try.func71 (by kernel_rfl) rfl #[.slice A1 l1.length c1, .slice A2 l2.length c2] rfl mt_ ?_; (with_reducible refine (quot_Gcd.calls k _ _ l1 _ _ l2 t321 t322 _ ?side1 ?side2 ?side3 ?side4 A4.out).mono ?_); (case side1 => exact cc_ (Kd.C_below HR1.out HB.out)); (case side2 => exact HC1.out); (case side3 => exact cc_ (Kd.C_below HR2.out HB.out)); (case side4 => exact HC2.out); rintro e w8 ⟨v323, rfl, ho0, hb⟩; refine ⟨_, rfl, ?_⟩; have n0_ := Aside0.mk (Kd.R_lower ho0 (below_size (bb1_ HB GE320))); have n1_ := Aside0.mk (blk_below (g := gb320) (o := .cells #[.bool false, .slice none 0 0, .slice none 0 0] 44 (0, 0)) (kb_ BK320) hb); have n2_ := Aside0.mk (below_step (bb1_ HB GE320) hb); clear BK320; clear HB; have HO324 := n0_; have BK320 := n1_; have HB := n2_; clear n0_ n1_ n2_; (try clear hb); (try clear hb2); (try clear hk); (try clear hi); (try clear ho0); have hcz9_0 : w8.cell? ⟨gb320, 0, none⟩ = some (.bool false) := (blk_cell BK320.out 0).trans rfl; have hcz9_1 : w8.cell? ⟨gb320, 1, none⟩ = some (.slice none 0 0) := (blk_cell BK320.out 1).trans rfl; have hcz9_2 : w8.cell? ⟨gb320, 2, none⟩ = some (.slice none 0 0) := (blk_cell BK320.out 2).trans rfl; have hfz9_0 := blk_frozen BK320.out 0; have hfz9_1 := blk_frozen BK320.out 1; have hfz9_2 := blk_frozen BK320.out 2))
   refine bodyPost_ret (results_ct rfl _ _ gb320 44 #[.bool false, .slice none 0 0, .slice none 0 0] (0, 0) _ rfl (by (with_reducible repeat (first | refine blk_drewN ?_ _ | refine blk_drew ?_ | refine blk_alloc ?_ _)); refine blk_put (cs := #[.bool false, .slice none 0 0, .slice none 0 0]) ?_ 2 _ (by first | rfl | (simp; done)); (with_reducible repeat (first | refine blk_drewN ?_ _ | refine blk_drew ?_ | refine blk_alloc ?_ _)); refine blk_put (cs := #[.bool false, .slice none 0 0, .slice none 0 0]) ?_ 1 _ (by first | rfl | (simp; done)); (with_reducible repeat (first | refine blk_drewN ?_ _ | refine blk_drew ?_ | refine blk_alloc ?_ _)); refine blk_put (cs := #[.bool false, .slice none 0 0, .slice none 0 0]) ?_ 0 _ (by first | rfl | (simp; done)); (with_reducible repeat (first | refine blk_drewN ?_ _ | refine blk_drew ?_ | refine blk_alloc ?_ _)); exact BK320.out) Try.underlying44 rfl (by kernel_rfl)) rfl ?_
   exact ⟨_, _, by first | rfl | (simp [errW_none, errW_some] <;> rfl) | (simp [*, errW_none, errW_some] <;> rfl), by first | exact Kd.R_nil _ _ _ _ _ | exact Kd.N_nil _ _ _ _ _ | exact Kd.V_nil _ _ _ _ _ | exact Kd.Q_nil _ _ _ _ _ | exact Kd.S_nil _ _ _ _ _, by first | exact Kd.R_nil _ _ _ _ _ | exact Kd.N_nil _ _ _ _ _ | exact Kd.V_nil _ _ _ _ _ | exact Kd.Q_nil _ _ _ _ _ | exact Kd.S_nil _ _ _ _ _, by repeat (first | (with_reducible first | exact HB.out | apply below_alloc | apply pw_below_drewN | apply below_drew1 | refine below_set ?_ GE320.out) | exact HB.out)⟩
  ·
   rw [if_neg c6] at H
   have c6b0 : ((l2.length : Int) == 0) = false := beq_eq_false_iff_ne.mpr c6
   have c6b1 : ((l2.length : Int) != 0) = true := bne_iff_ne.mpr c6
   have c6b2 : ¬ (l2 = []) := fun h_ => c6 (by rw [h_]; rfl)
   replace H := Option.bind_eq_some_iff.mp H
   obtain ⟨⟨t325, t326, t327⟩, A100, H⟩ := H
   replace H : ((quot_Div.f k l2 t321).bind fun bt332 => (if a0 = true then ((ratio_Zero.f false t325 bt332.1).bind fun t339 => (some (!t339, t325, bt332.1, 0))) else (some (false, t325, bt332.1, 0)))) = some (r1, r2, r3, r4) := H
   have A10 := Aside0.mk A100
   clear A100
   replace H := Option.bind_eq_some_iff.mp H
   obtain ⟨⟨t332, t333, t334⟩, A110, H⟩ := H
   replace H : (if a0 = true then ((ratio_Zero.f false t325 t332).bind fun t339 => (some (!t339, t325, t332, 0))) else (some (false, t325, t332, 0))) = some (r1, r2, r3, r4) := H
   have A11 := Aside0.mk A110
   clear A110
   by_cases c12 : a0 = true
   ·
    subst c12
    have H1 : ((ratio_Zero.f false t325 t332).bind fun t339 => (some (!t339, t325, t332, 0))) = some (r1, r2, r3, r4) := by rw [if_pos rfl] at H; exact H
    clear H
    have H := H1
    clear H1
    replace H := Option.bind_eq_some_iff.mp H
    obtain ⟨t339, A130, H⟩ := H
    replace H : (some (!t339, t325, t332, 0)) = some (r1, r2, r3, r4) := H
    have A13 := Aside0.mk A130
    clear A130
    simp only [Option.some.injEq, Prod.mk.injEq] at H
    obtain ⟨rfl, rfl, rfl, rfl⟩ := H
    go_enter Try.func24, Try.ntmps24
    go_wp2_with (first | ((with_reducible refine gate_dst (N := 6) rfl ?_); refine box_event ?hg (N := 6) ?hd (cs := #[.bool false, .slice none 0 0, .slice none 0 0]) (t := 44) ?hr ?_; (case hd => rfl); (case hg => rfl); (case hr => exact gs_); intro gb320 hg w14 hbox hb; have n0_ := Aside0.mk (below_step (bb_ HB) hb); have n1_ := Aside0.mk (hbox); have n2_ := Aside0.mk ((by rw [hg]; exact (below_size (bb_ HB)) : w.heap.size ≤ gb320)); have n3_ := Aside0.mk ((by rw [hg]; exact (below_size (bb_ HB)) : w.heap.size ≤ gb320)); clear HB; have HB := n0_; have BK320 := n1_; have GW320 := n2_; have GE320 := n3_; clear n0_ n1_ n2_ n3_; clear hb hbox hg) | ((with_reducible refine gate_callee (f := 71) rfl ?_); refine goesL_ (some 12) rfl rfl Try.func71 (by kernel_rfl) rfl #[.slice A1 l1.length c1, .slice A2 l2.length c2] rfl mt_ ?_; (with_reducible refine (quot_Gcd.calls k _ _ l1 _ _ l2 t321 t322 _ ?side1 ?side2 ?side3 ?side4 A4.out).mono ?_); (case side1 => exact cc_ (Kd.C_below HR1.out HB.out)); (case side2 => exact HC1.out); (case side3 => exact cc_ (Kd.C_below HR2.out HB.out)); (case side4 => exact HC2.out); rintro e w15 ⟨v323, rfl, ho0, hb⟩; refine ⟨_, rfl, ?_⟩; have n0_ := Aside0.mk (Kd.R_lower ho0 (below_size (bb1_ HB GE320))); have n1_ := Aside0.mk (blk_below (g := gb320) (o := .cells #[.bool false, .slice none 0 0, .slice none 0 0] 44 (0, 0)) (kb_ BK320) hb); have n2_ := Aside0.mk (below_step (bb1_ HB GE320) hb); clear BK320; clear HB; have HO324 := n0_; have BK320 := n1_; have HB := n2_; clear n0_ n1_ n2_; (try clear hb); (try clear hb2); (try clear hk); (try clear hi); (try clear ho0); obtain ⟨Ao16, co16, eo16⟩ := Kd.R_slice HO324.out; subst eo16) | ((with_reducible refine gate_callee (f := 72) rfl ?_); refine goesL_ (some 28) rfl rfl Try.func72 (by kernel_rfl) rfl #[.slice A1 l1.length c1, .slice Ao16 t321.length co16] rfl mt_ ?_; (with_reducible refine (quot_Div.calls k _ _ l1 _ _ t321 t325 t326 t327 _ ?side1 ?side2 ?side3 ?side4 A10.out).mono ?_); (case side1 => exact cc_ (Kd.C_below HR1.out HB.out)); (case side2 => exact HC1.out); (case side3 => exact cc_ (Kd.R_reads' HO324.out).2.2); (case side4 => exact (Kd.R_reads' HO324.out).2.1); rintro e w17 ⟨v328, v330, rfl, ho0, ho1, hb⟩; refine ⟨_, rfl, ?_⟩; have n0_ := Aside0.mk (Kd.R_mono (Kd.R_told (Kd.R_told (Kd.R_old (rR_ HO324) hb) (Kd.R_base ho0)) (Kd.R_base ho1)) (fun _ h_ => h_.1)); have n1_ := Aside0.mk (Kd.R_lower (Kd.R_new' ho0 (Kd.R_lt (rR_ HO324))) (below_size (bb1_ HB GE320))); have n2_ := Aside0.mk (Kd.R_lower (Kd.R_new' ho1 (Kd.R_lt (rR_ HO324))) (below_size (bb1_ HB GE320))); have n3_ := Aside0.mk (blk_below (g := gb320) (o := .cells #[.bool false, .slice none 0 0, .slice none 0 0] 44 (0, 0)) (kb_ BK320) hb); have n4_ := Aside0.mk (below_step (bb1_ HB GE320) hb); clear HO324; clear BK320; clear HB; have HO324 := n0_; have HO329 := n1_; have HO331 := n2_; have BK320 := n3_; have HB := n4_; clear n0_ n1_ n2_ n3_ n4_; (try clear hb); (try clear hb2); (try clear hk); (try clear hi); (try clear ho0); (try clear ho1); obtain ⟨Ao18, co18, eo18⟩ := Kd.R_slice HO329.out; subst eo18; have hcz19_0 : w17.cell? ⟨gb320, 0, none⟩ = some (.bool false) := (blk_cell BK320.out 0).trans rfl; have hcz19_1 : w17.cell? ⟨gb320, 1, none⟩ = some (.slice none 0 0) := (blk_cell BK320.out 1).trans rfl; have hcz19_2 : w17.cell? ⟨gb320, 2, none⟩ = some (.slice none 0 0) := (blk_cell BK320.out 2).trans rfl; have hfz19_0 := blk_frozen BK320.out 0; have hfz19_1 := blk_frozen BK320.out 1; have hfz19_2 := blk_frozen BK320.out 2) | ((with_reducible refine gate_callee (f := 72) rfl ?_); refine goesL_ (some 36) rfl rfl Try.func72 (by kernel_rfl) rfl #[.slice A2 l2.length c2, .slice Ao16 t321.length co16] rfl mt_ ?_; (with_reducible refine (quot_Div.calls k _ _ l2 _ _ t321 t332 t333 t334 _ ?side1 ?side2 ?side3 ?side4 A11.out).mono ?_); (case side1 => exact Kd.C_below HR2.out (bb1_ HB GE320)); (case side2 => exact HC2.out); (case side3 => refine (Kd.R_reads' (e := 22) (base := w.heap.size) (ok := fun k_ => ((True ∧ some k_ ≠ (.slice Ao18 t325.length co18 : Value).ownBlock) ∧ some k_ ≠ (v330 : Value).ownBlock)) (n := t321.length) (c := co16) ?_).2.2; exact (by (with_reducible repeat (first | apply Kd.R_alloc | apply Kd.R_drewN | apply Kd.R_drew)); exact (Kd.R_mono (Kd.R_far (p := ⟨gb320, 1, none⟩) (Kd.R_types HO324.out BK320.out (by decide)) (fun _ hk => hk.2) (.slice Ao18 t325.length co18)) (fun _ h_ => h_.1)))); (case side4 => exact (Kd.R_reads' HO324.out).2.1); rintro e w20 ⟨v335, v337, rfl, ho0, ho1, hb⟩; refine ⟨_, rfl, ?_⟩; have n0_ := Aside0.mk (Kd.R_mono (Kd.R_told (Kd.R_told (Kd.R_old (by (with_reducible repeat (first | apply Kd.R_alloc | apply Kd.R_drewN | apply Kd.R_drew)); exact (Kd.R_mono (Kd.R_far (p := ⟨gb320, 1, none⟩) (Kd.R_types HO324.out BK320.out (by decide)) (fun _ hk => hk.2) (.slice Ao18 t325.length co18)) (fun _ h_ => h_.1))) hb) (Kd.R_base ho0)) (Kd.R_base ho1)) (fun _ h_ => h_.1)); have n1_ := Aside0.mk (Kd.R_mono (Kd.R_told (Kd.R_told (Kd.R_old (by (with_reducible repeat (first | apply Kd.R_alloc | apply Kd.R_drewN | apply Kd.R_drew)); exact (Kd.R_mono (Kd.R_far (p := ⟨gb320, 1, none⟩) (Kd.R_types HO329.out BK320.out (by decide)) (fun _ hk => hk.2) (.slice Ao18 t325.length co18)) (fun _ h_ => h_.1))) hb) (Kd.R_base ho0)) (Kd.R_base ho1)) (fun _ h_ => h_.1)); have n2_ := Aside0.mk (Kd.R_mono (Kd.R_told (Kd.R_told (Kd.R_old (by (with_reducible repeat (first | apply Kd.R_alloc | apply Kd.R_drewN | apply Kd.R_drew)); exact (Kd.R_mono (Kd.R_far (p := ⟨gb320, 1, none⟩) (Kd.R_types HO331.out BK320.out (by decide)) (fun _ hk => hk.2) (.slice Ao18 t325.length co18)) (fun _ h_ => h_.1))) hb) (Kd.R_base ho0)) (Kd.R_base ho1)) (fun _ h_ => h_.1)); have n3_ := Aside0.mk (Kd.R_lower (Kd.R_new' (Kd.R_new' (Kd.R_new' ho0 (Kd.R_lt (by (with_reducible repeat (first | apply Kd.R_alloc | apply Kd.R_drewN | apply Kd.R_drew)); exact (Kd.R_mono (Kd.R_far (p := ⟨gb320, 1, none⟩) (Kd.R_types HO324.out BK320.out (by decide)) (fun _ hk => hk.2) (.slice Ao18 t325.length co18)) (fun _ h_ => h_.1))))) (Kd.R_lt (by (with_reducible repeat (first | apply Kd.R_alloc | apply Kd.R_drewN | apply Kd.R_drew)); exact (Kd.R_mono (Kd.R_far (p := ⟨gb320, 1, none⟩) (Kd.R_types HO329.out BK320.out (by decide)) (fun _ hk => hk.2) (.slice Ao18 t325.length co18)) (fun _ h_ => h_.1))))) (Kd.R_lt (by (with_reducible repeat (first | apply Kd.R_alloc | apply Kd.R_drewN | apply Kd.R_drew)); exact (Kd.R_mono (Kd.R_far (p := ⟨gb320, 1, none⟩) (Kd.R_types HO331.out BK320.out (by decide)) (fun _ hk => hk.2) (.slice Ao18 t325.length co18)) (fun _ h_ => h_.1))))) (below_size (bb1_ HB GE320))); have n4_ := Aside0.mk (Kd.R_lower (Kd.R_new' (Kd.R_new' (Kd.R_new' ho1 (Kd.R_lt (by (with_reducible repeat (first | apply Kd.R_alloc | apply Kd.R_drewN | apply Kd.R_drew)); exact (Kd.R_mono (Kd.R_far (p := ⟨gb320, 1, none⟩) (Kd.R_types HO324.out BK320.out (by decide)) (fun _ hk => hk.2) (.slice Ao18 t325.length co18)) (fun _ h_ => h_.1))))) (Kd.R_lt (by (with_reducible repeat (first | apply Kd.R_alloc | apply Kd.R_drewN | apply Kd.R_drew)); exact (Kd.R_mono (Kd.R_far (p := ⟨gb320, 1, none⟩) (Kd.R_types HO329.out BK320.out (by decide)) (fun _ hk => hk.2) (.slice Ao18 t325.length co18)) (fun _ h_ => h_.1))))) (Kd.R_lt (by (with_reducible repeat (first | apply Kd.R_alloc | apply Kd.R_drewN | apply Kd.R_drew)); exact (Kd.R_mono (Kd.R_far (p := ⟨gb320, 1, none⟩) (Kd.R_types HO331.out BK320.out (by decide)) (fun _ hk => hk.2) (.slice Ao18 t325.length co18)) (fun _ h_ => h_.1))))) (below_size (bb1_ HB GE320))); have n5_ := Aside0.mk (blk_below (g := gb320) (o := .cells #[.bool false, .slice Ao18 t325.length co18, .slice none 0 0] 44 (0, 0)) (by (with_reducible repeat (first | refine blk_drewN ?_ _ | refine blk_drew ?_ | refine blk_alloc ?_ _)); refine blk_put (cs := #[.bool false, .slice none 0 0, .slice none 0 0]) ?_ 1 _ (by first | rfl | (simp; done)); (with_reducible repeat (first | refine blk_drewN ?_ _ | refine blk_drew ?_ | refine blk_alloc ?_ _)); exact BK320.out) hb); have n6_ := Aside0.mk (below_step (bb1_ HB GE320) hb); clear HO324; clear HO329; clear HO331; clear BK320; clear HB; have HO324 := n0_; have HO329 := n1_; have HO331 := n2_; have HO336 := n3_; have HO338 := n4_; have BK320 := n5_; have HB := n6_; clear n0_ n1_ n2_ n3_ n4_ n5_ n6_; (try clear hb); (try clear hb2); (try clear hk); (try clear hi); (try clear ho0); (try clear ho1); obtain ⟨Ao21, co21, eo21⟩ := Kd.R_slice HO336.out; subst eo21; have hcz22_0 : w20.cell? ⟨gb320, 0, none⟩ = some (.bool false) := (blk_cell BK320.out 0).trans rfl; have hcz22_1 : w20.cell? ⟨gb320, 1, none⟩ = some (.slice Ao18 t325.length co18) := (blk_cell BK320.out 1).trans rfl; have hcz22_2 : w20.cell? ⟨gb320, 2, none⟩ = some (.slice none 0 0) := (blk_cell BK320.out 2).trans rfl; have hfz22_0 := blk_frozen BK320.out 0; have hfz22_1 := blk_frozen BK320.out 1; have hfz22_2 := blk_frozen BK320.out 2) | (go_at_call 54; (with_reducible refine (ratio_Zero.calls false _ _ t325 _ _ t332 t339 _ ?side1 ?side2 ?side3 ?side4 A13.out).mono ?_); (case side1 => refine (Kd.R_reads' (e := 22) (base := w.heap.size) (ok := fun k_ => (((some k_ ≠ (v330 : Value).ownBlock ∧ some k_ ≠ (.slice Ao16 t321.length co16 : Value).ownBlock) ∧ some k_ ≠ (.slice Ao21 t332.length co21 : Value).ownBlock) ∧ some k_ ≠ (v337 : Value).ownBlock)) (n := t325.length) (c := co18) ?_).2.2; exact (by (with_reducible repeat (first | apply Kd.R_alloc | apply Kd.R_drewN | apply Kd.R_drew)); exact (Kd.R_mono (Kd.R_far (p := ⟨gb320, 2, none⟩) (Kd.R_types HO329.out BK320.out (by decide)) (fun _ hk => hk.2) (.slice Ao21 t332.length co21)) (fun _ h_ => h_.1)))); (case side2 => exact (Kd.R_reads' HO329.out).2.1); (case side3 => refine (Kd.R_reads' (e := 22) (base := w.heap.size) (ok := fun k_ => (((some k_ ≠ (v337 : Value).ownBlock ∧ some k_ ≠ (.slice Ao16 t321.length co16 : Value).ownBlock) ∧ some k_ ≠ (.slice Ao18 t325.length co18 : Value).ownBlock) ∧ some k_ ≠ (v330 : Value).ownBlock)) (n := t332.length) (c := co21) ?_).2.2; exact (by (with_reducible repeat (first | apply Kd.R_alloc | apply Kd.R_drewN | apply Kd.R_drew)); exact (Kd.R_mono (Kd.R_far (p := ⟨gb320, 2, none⟩) (Kd.R_types HO336.out BK320.out (by decide)) (fun _ hk => hk.2) (.slice Ao21 t332.length co21)) (fun _ h_ => h_.1)))); (case side4 => exact (Kd.R_reads' HO336.out).2.1); rintro e w23 ⟨rfl, hb⟩; have n0_ := Aside0.mk (Kd.R_below (by (with_reducible repeat (first | apply Kd.R_alloc | apply Kd.R_drewN | apply Kd.R_drew)); exact (Kd.R_mono (Kd.R_far (p := ⟨gb320, 2, none⟩) (Kd.R_types HO324.out BK320.out (by decide)) (fun _ hk => hk.2) (.slice Ao21 t332.length co21)) (fun _ h_ => h_.1))) hb); have n1_ := Aside0.mk (Kd.R_below (by (with_reducible repeat (first | apply Kd.R_alloc | apply Kd.R_drewN | apply Kd.R_drew)); exact (Kd.R_mono (Kd.R_far (p := ⟨gb320, 2, none⟩) (Kd.R_types HO329.out BK320.out (by decide)) (fun _ hk => hk.2) (.slice Ao21 t332.length co21)) (fun _ h_ => h_.1))) hb); have n2_ := Aside0.mk (Kd.R_below (by (with_reducible repeat (first | apply Kd.R_alloc | apply Kd.R_drewN | apply Kd.R_drew)); exact (Kd.R_mono (Kd.R_far (p := ⟨gb320, 2, none⟩) (Kd.R_types HO331.out BK320.out (by decide)) (fun _ hk => hk.2) (.slice Ao21 t332.length co21)) (fun _ h_ => h_.1))) hb); have n3_ := Aside0.mk (Kd.R_below (by (with_reducible repeat (first | apply Kd.R_alloc | apply Kd.R_drewN | apply Kd.R_drew)); exact (Kd.R_mono (Kd.R_far (p := ⟨gb320, 2, none⟩) (Kd.R_types HO336.out BK320.out (by decide)) (fun _ hk => hk.2) (.slice Ao21 t332.length co21)) (fun _ h_ => h_.1))) hb); have n4_ := Aside0.mk (Kd.R_below (by (with_reducible repeat (first | apply Kd.R_alloc | apply Kd.R_drewN | apply Kd.R_drew)); exact (Kd.R_mono (Kd.R_far (p := ⟨gb320, 2, none⟩) (Kd.R_types HO338.out BK320.out (by decide)) (fun _ hk => hk.2) (.slice Ao21 t332.length co21)) (fun _ h_ => h_.1))) hb); have n5_ := Aside0.mk (blk_below (g := gb320) (o := .cells #[.bool false, .slice Ao18 t325.length co18, .slice Ao21 t332.length co21] 44 (0, 0)) (by (with_reducible repeat (first | refine blk_drewN ?_ _ | refine blk_drew ?_ | refine blk_alloc ?_ _)); refine blk_put (cs := #[.bool false, .slice Ao18 t325.length co18, .slice none 0 0]) ?_ 2 _ (by first | rfl | (simp; done)); (with_reducible repeat (first | refine blk_drewN ?_ _ | refine blk_drew ?_ | refine blk_alloc ?_ _)); exact BK320.out) hb); have n6_ := Aside0.mk (below_step (bb1_ HB GE320) hb); clear HO324; clear HO329; clear HO331; clear HO336; clear HO338; clear BK320; clear HB; have HO324 := n0_; have HO329 := n1_; have HO331 := n2_; have HO336 := n3_; have HO338 := n4_; have BK320 := n5_; have HB := n6_; clear n0_ n1_ n2_ n3_ n4_ n5_ n6_; (try clear hb); (try clear hb2); (try clear hk); (try clear hi); have hcz24_0 : w23.cell? ⟨gb320, 0, none⟩ = some (.bool false) := (blk_cell BK320.out 0).trans rfl; have hcz24_1 : w23.cell? ⟨gb320, 1, none⟩ = some (.slice Ao18 t325.length co18) := (blk_cell BK320.out 1).trans rfl; have hcz24_2 : w23.cell? ⟨gb320, 2, none⟩ = some (.slice Ao21 t332.length co21) := (blk_cell BK320.out 2).trans rfl; have hfz24_0 := blk_frozen BK320.out 0; have hfz24_1 := blk_frozen BK320.out 1; have hfz24_2 := blk_frozen BK320.out 2))
    refine bodyPost_ret (results_ct rfl _ _ gb320 44 #[.bool (!t339), .slice Ao18 t325.length co18, .slice Ao21 t332.length co21] (0, 0) _ rfl (by (with_reducible repeat (first | refine blk_drewN ?_ _ | refine blk_drew ?_ | refine blk_alloc ?_ _)); refine blk_put (cs := #[.bool (!t339), .slice Ao18 t325.length co18, .slice Ao21 t332.length co21]) ?_ 2 _ (by first | rfl | (simp; done)); (with_reducible repeat (first | refine blk_drewN ?_ _ | refine blk_drew ?_ | refine blk_alloc ?_ _)); refine blk_put (cs := #[.bool (!t339), .slice Ao18 t325.length co18, .slice Ao21 t332.length co21]) ?_ 1 _ (by first | rfl | (simp; done)); (with_reducible repeat (first | refine blk_drewN ?_ _ | refine blk_drew ?_ | refine blk_alloc ?_ _)); refine blk_put (cs := #[.bool (!t339), .slice Ao18 t325.length co18, .slice Ao21 t332.length co21]) ?_ 0 _ (by first | rfl | (simp; done)); (with_reducible repeat (first | refine blk_drewN ?_ _ | refine blk_drew ?_ | refine blk_alloc ?_ _)); refine blk_put (cs := #[.bool false, .slice Ao18 t325.length co18, .slice Ao21 t332.length co21]) ?_ 0 _ (by first | rfl | (simp; done)); (with_reducible repeat (first | refine blk_drewN ?_ _ | refine blk_drew ?_ | refine blk_alloc ?_ _)); exact BK320.out) Try.underlying44 rfl (by kernel_rfl)) rfl ?_
    exact ⟨_, _, by first | rfl | (simp [errW_none, errW_some] <;> rfl) | (simp [*, errW_none, errW_some] <;> rfl), by (with_reducible repeat (first | apply Kd.R_alloc | apply Kd.R_drewN | apply Kd.R_drew)); exact Kd.R_mono (Kd.R_far (p := ⟨gb320, 2, none⟩) (Kd.R_far (p := ⟨gb320, 1, none⟩) (Kd.R_far (p := ⟨gb320, 0, none⟩) (Kd.R_far (p := ⟨gb320, 0, none⟩) (Kd.R_types HO329.out BK320.out (by decide)) (fun _ hk => hk.2) (.bool (!t339))) (fun _ hk => hk.2) (.bool (!t339))) (fun _ hk => hk.2) (.slice Ao18 t325.length co18)) (fun _ hk => hk.2) (.slice Ao21 t332.length co21)) (fun _ hk => hk.1.1.2), by (with_reducible repeat (first | apply Kd.R_alloc | apply Kd.R_drewN | apply Kd.R_drew)); exact Kd.R_mono (Kd.R_far (p := ⟨gb320, 2, none⟩) (Kd.R_far (p := ⟨gb320, 1, none⟩) (Kd.R_far (p := ⟨gb320, 0, none⟩) (Kd.R_far (p := ⟨gb320, 0, none⟩) (Kd.R_types HO336.out BK320.out (by decide)) (fun _ hk => hk.2) (.bool (!t339))) (fun _ hk => hk.2) (.bool (!t339))) (fun _ hk => hk.2) (.slice Ao18 t325.length co18)) (fun _ hk => hk.2) (.slice Ao21 t332.length co21)) (fun _ hk => hk.1.1.2), by repeat (first | (with_reducible first | exact HB.out | apply below_alloc | apply pw_below_drewN | apply below_drew1 | refine below_set ?_ GE320.out) | exact HB.out)⟩
   ·
    replace c12 := Bool.eq_false_iff.mpr c12
    subst c12
    have H1 : (some (false, t325, t332, 0)) = some (r1, r2, r3, r4) := by rw [if_neg (show ¬ (false = true) by decide)] at H; exact H
    clear H
    have H := H1
    clear H1
    simp only [Option.some.injEq, Prod.mk.injEq] at H
    obtain ⟨rfl, rfl, rfl, rfl⟩ := H
    go_enter Try.func24, Try.ntmps24
    go_wp2_with (first | ((with_reducible refine gate_dst (N := 6) rfl ?_); refine box_event ?hg (N := 6) ?hd (cs := #[.bool false, .slice none 0 0, .slice none 0 0]) (t := 44) ?hr ?_; (case hd => rfl); (case hg => rfl); (case hr => exact gs_); intro gb320 hg w25 hbox hb; have n0_ := Aside0.mk (below_step (bb_ HB) hb); have n1_ := Aside0.mk (hbox); have n2_ := Aside0.mk ((by rw [hg]; exact (below_size (bb_ HB)) : w.heap.size ≤ gb320)); have n3_ := Aside0.mk ((by rw [hg]; exact (below_size (bb_ HB)) : w.heap.size ≤ gb320)); clear HB; have HB := n0_; have BK320 := n1_; have GW320 := n2_; have GE320 := n3_; clear n0_ n1_ n2_ n3_; clear hb hbox hg) | ((with_reducible refine gate_callee (f := 71) rfl ?_); refine goesL_ (some 12) rfl rfl Try.func71 (by kernel_rfl) rfl #[.slice A1 l1.length c1, .slice A2 l2.length c2] rfl mt_ ?_; (with_reducible refine (quot_Gcd.calls k _ _ l1 _ _ l2 t321 t322 _ ?side1 ?side2 ?side3 ?side4 A4.out).mono ?_); (case side1 => exact cc_ (Kd.C_below HR1.out HB.out)); (case side2 => exact HC1.out); (case side3 => exact cc_ (Kd.C_below HR2.out HB.out)); (case side4 => exact HC2.out); rintro e w26 ⟨v323, rfl, ho0, hb⟩; refine ⟨_, rfl, ?_⟩; have n0_ := Aside0.mk (Kd.R_lower ho0 (below_size (bb1_ HB GE320))); have n1_ := Aside0.mk (blk_below (g := gb320) (o := .cells #[.bool false, .slice none 0 0, .slice none 0 0] 44 (0, 0)) (kb_ BK320) hb); have n2_ := Aside0.mk (below_step (bb1_ HB GE320) hb); clear BK320; clear HB; have HO324 := n0_; have BK320 := n1_; have HB := n2_; clear n0_ n1_ n2_; (try clear hb); (try clear hb2); (try clear hk); (try clear hi); (try clear ho0); obtain ⟨Ao27, co27, eo27⟩ := Kd.R_slice HO324.out; subst eo27) | ((with_reducible refine gate_callee (f := 72) rfl ?_); refine goesL_ (some 28) rfl rfl Try.func72 (by kernel_rfl) rfl #[.slice A1 l1.length c1, .slice Ao27 t321.length co27] rfl mt_ ?_; (with_reducible refine (quot_Div.calls k _ _ l1 _ _ t321 t325 t326 t327 _ ?side1 ?side2 ?side3 ?side4 A10.out).mono ?_); (case side1 => exact cc_ (Kd.C_below HR1.out HB.out)); (case side2 => exact HC1.out); (case side3 => exact cc_ (Kd.R_reads' HO324.out).2.2); (case side4 => exact (Kd.R_reads' HO324.out).2.1); rintro e w28 ⟨v328, v330, rfl, ho0, ho1, hb⟩; refine ⟨_, rfl, ?_⟩; have n0_ := Aside0.mk (Kd.R_mono (Kd.R_told (Kd.R_told (Kd.R_old (rR_ HO324) hb) (Kd.R_base ho0)) (Kd.R_base ho1)) (fun _ h_ => h_.1)); have n1_ := Aside0.mk (Kd.R_lower (Kd.R_new' ho0 (Kd.R_lt (rR_ HO324))) (below_size (bb1_ HB GE320))); have n2_ := Aside0.mk (Kd.R_lower (Kd.R_new' ho1 (Kd.R_lt (rR_ HO324))) (below_size (bb1_ HB GE320))); have n3_ := Aside0.mk (blk_below (g := gb320) (o := .cells #[.bool false, .slice none 0 0, .slice none 0 0] 44 (0, 0)) (kb_ BK320) hb); have n4_ := Aside0.mk (below_step (bb1_ HB GE320) hb); clear HO324; clear BK320; clear HB; have HO324 := n0_; have HO329 := n1_; have HO331 := n2_; have BK320 := n3_; have HB := n4_; clear n0_ n1_ n2_ n3_ n4_; (try clear hb); (try clear hb2); (try clear hk); (try clear hi); (try clear ho0); (try clear ho1); obtain ⟨Ao29, co29, eo29⟩ := Kd.R_slice HO329.out; subst eo29; have hcz30_0 : w28.cell? ⟨gb320, 0, none⟩ = some (.bool false) := (blk_cell BK320.out 0).trans rfl; have hcz30_1 : w28.cell? ⟨gb320, 1, none⟩ = some (.slice none 0 0) := (blk_cell BK320.out 1).trans rfl; have hcz30_2 : w28.cell? ⟨gb320, 2, none⟩ = some (.slice none 0 0) := (blk_cell BK320.out 2).trans rfl; have hfz30_0 := blk_frozen BK320.out 0; have hfz30_1 := blk_frozen BK320.out 1; have hfz30_2 := blk_frozen BK320.out 2) | ((with_reducible refine gate_callee (f := 72) rfl ?_); refine goesL_ (some 36) rfl rfl Try.func72 (by kernel_rfl) rfl #[.slice A2 l2.length c2, .slice Ao27 t321.length co27] rfl mt_ ?_; (with_reducible refine (quot_Div.calls k _ _ l2 _ _ t321 t332 t333 t334 _ ?side1 ?side2 ?side3 ?side4 A11.out).mono ?_); (case side1 => exact Kd.C_below HR2.out (bb1_ HB GE320)); (case side2 => exact HC2.out); (case side3 => refine (Kd.R_reads' (e := 22) (base := w.heap.size) (ok := fun k_ => ((True ∧ some k_ ≠ (.slice Ao29 t325.length co29 : Value).ownBlock) ∧ some k_ ≠ (v330 : Value).ownBlock)) (n := t321.length) (c := co27) ?_).2.2; exact (by (with_reducible repeat (first | apply Kd.R_alloc | apply Kd.R_drewN | apply Kd.R_drew)); exact (Kd.R_mono (Kd.R_far (p := ⟨gb320, 1, none⟩) (Kd.R_types HO324.out BK320.out (by decide)) (fun _ hk => hk.2) (.slice Ao29 t325.length co29)) (fun _ h_ => h_.1)))); (case side4 => exact (Kd.R_reads' HO324.out).2.1); rintro e w31 ⟨v335, v337, rfl, ho0, ho1, hb⟩; refine ⟨_, rfl, ?_⟩; have n0_ := Aside0.mk (Kd.R_mono (Kd.R_told (Kd.R_told (Kd.R_old (by (with_reducible repeat (first | apply Kd.R_alloc | apply Kd.R_drewN | apply Kd.R_drew)); exact (Kd.R_mono (Kd.R_far (p := ⟨gb320, 1, none⟩) (Kd.R_types HO324.out BK320.out (by decide)) (fun _ hk => hk.2) (.slice Ao29 t325.length co29)) (fun _ h_ => h_.1))) hb) (Kd.R_base ho0)) (Kd.R_base ho1)) (fun _ h_ => h_.1)); have n1_ := Aside0.mk (Kd.R_mono (Kd.R_told (Kd.R_told (Kd.R_old (by (with_reducible repeat (first | apply Kd.R_alloc | apply Kd.R_drewN | apply Kd.R_drew)); exact (Kd.R_mono (Kd.R_far (p := ⟨gb320, 1, none⟩) (Kd.R_types HO329.out BK320.out (by decide)) (fun _ hk => hk.2) (.slice Ao29 t325.length co29)) (fun _ h_ => h_.1))) hb) (Kd.R_base ho0)) (Kd.R_base ho1)) (fun _ h_ => h_.1)); have n2_ := Aside0.mk (Kd.R_mono (Kd.R_told (Kd.R_told (Kd.R_old (by (with_reducible repeat (first | apply Kd.R_alloc | apply Kd.R_drewN | apply Kd.R_drew)); exact (Kd.R_mono (Kd.R_far (p := ⟨gb320, 1, none⟩) (Kd.R_types HO331.out BK320.out (by decide)) (fun _ hk => hk.2) (.slice Ao29 t325.length co29)) (fun _ h_ => h_.1))) hb) (Kd.R_base ho0)) (Kd.R_base ho1)) (fun _ h_ => h_.1)); have n3_ := Aside0.mk (Kd.R_lower (Kd.R_new' (Kd.R_new' (Kd.R_new' ho0 (Kd.R_lt (by (with_reducible repeat (first | apply Kd.R_alloc | apply Kd.R_drewN | apply Kd.R_drew)); exact (Kd.R_mono (Kd.R_far (p := ⟨gb320, 1, none⟩) (Kd.R_types HO324.out BK320.out (by decide)) (fun _ hk => hk.2) (.slice Ao29 t325.length co29)) (fun _ h_ => h_.1))))) (Kd.R_lt (by (with_reducible repeat (first | apply Kd.R_alloc | apply Kd.R_drewN | apply Kd.R_drew)); exact (Kd.R_mono (Kd.R_far (p := ⟨gb320, 1, none⟩) (Kd.R_types HO329.out BK320.out (by decide)) (fun _ hk => hk.2) (.slice Ao29 t325.length co29)) (fun _ h_ => h_.1))))) (Kd.R_lt (by (with_reducible repeat (first | apply Kd.R_alloc | apply Kd.R_drewN | apply Kd.R_drew)); exact (Kd.R_mono (Kd.R_far (p := ⟨gb320, 1, none⟩) (Kd.R_types HO331.out BK320.out (by decide)) (fun _ hk => hk.2) (.slice Ao29 t325.length co29)) (fun _ h_ => h_.1))))) (below_size (bb1_ HB GE320))); have n4_ := Aside0.mk (Kd.R_lower (Kd.R_new' (Kd.R_new' (Kd.R_new' ho1 (Kd.R_lt (by (with_reducible repeat (first | apply Kd.R_alloc | apply Kd.R_drewN | apply Kd.R_drew)); exact (Kd.R_mono (Kd.R_far (p := ⟨gb320, 1, none⟩) (Kd.R_types HO324.out BK320.out (by decide)) (fun _ hk => hk.2) (.slice Ao29 t325.length co29)) (fun _ h_ => h_.1))))) (Kd.R_lt (by (with_reducible repeat (first | apply Kd.R_alloc | apply Kd.R_drewN | apply Kd.R_drew)); exact (Kd.R_mono (Kd.R_far (p := ⟨gb320, 1, none⟩) (Kd.R_types HO329.out BK320.out (by decide)) (fun _ hk => hk.2) (.slice Ao29 t325.length co29)) (fun _ h_ => h_.1))))) (Kd.R_lt (by (with_reducible repeat (first | apply Kd.R_alloc | apply Kd.R_drewN | apply Kd.R_drew)); exact (Kd.R_mono (Kd.R_far (p := ⟨gb320, 1, none⟩) (Kd.R_types HO331.out BK320.out (by decide)) (fun _ hk => hk.2) (.slice Ao29 t325.length co29)) (fun _ h_ => h_.1))))) (below_size (bb1_ HB GE320))); have n5_ := Aside0.mk (blk_below (g := gb320) (o := .cells #[.bool false, .slice Ao29 t325.length co29, .slice none 0 0] 44 (0, 0)) (by (with_reducible repeat (first | refine blk_drewN ?_ _ | refine blk_drew ?_ | refine blk_alloc ?_ _)); refine blk_put (cs := #[.bool false, .slice none 0 0, .slice none 0 0]) ?_ 1 _ (by first | rfl | (simp; done)); (with_reducible repeat (first | refine blk_drewN ?_ _ | refine blk_drew ?_ | refine blk_alloc ?_ _)); exact BK320.out) hb); have n6_ := Aside0.mk (below_step (bb1_ HB GE320) hb); clear HO324; clear HO329; clear HO331; clear BK320; clear HB; have HO324 := n0_; have HO329 := n1_; have HO331 := n2_; have HO336 := n3_; have HO338 := n4_; have BK320 := n5_; have HB := n6_; clear n0_ n1_ n2_ n3_ n4_ n5_ n6_; (try clear hb); (try clear hb2); (try clear hk); (try clear hi); (try clear ho0); (try clear ho1); obtain ⟨Ao32, co32, eo32⟩ := Kd.R_slice HO336.out; subst eo32; have hcz33_0 : w31.cell? ⟨gb320, 0, none⟩ = some (.bool false) := (blk_cell BK320.out 0).trans rfl; have hcz33_1 : w31.cell? ⟨gb320, 1, none⟩ = some (.slice Ao29 t325.length co29) := (blk_cell BK320.out 1).trans rfl; have hcz33_2 : w31.cell? ⟨gb320, 2, none⟩ = some (.slice none 0 0) := (blk_cell BK320.out 2).trans rfl; have hfz33_0 := blk_frozen BK320.out 0; have hfz33_1 := blk_frozen BK320.out 1; have hfz33_2 := blk_frozen BK320.out 2))
    refine bodyPost_ret (results_ct rfl _ _ gb320 44 #[.bool false, .slice Ao29 t325.length co29, .slice Ao32 t332.length co32] (0, 0) _ rfl (by (with_reducible repeat (first | refine blk_drewN ?_ _ | refine blk_drew ?_ | refine blk_alloc ?_ _)); refine blk_put (cs := #[.bool false, .slice Ao29 t325.length co29, .slice Ao32 t332.length co32]) ?_ 2 _ (by first | rfl | (simp; done)); (with_reducible repeat (first | refine blk_drewN ?_ _ | refine blk_drew ?_ | refine blk_alloc ?_ _)); refine blk_put (cs := #[.bool false, .slice Ao29 t325.length co29, .slice Ao32 t332.length co32]) ?_ 1 _ (by first | rfl | (simp; done)); (with_reducible repeat (first | refine blk_drewN ?_ _ | refine blk_drew ?_ | refine blk_alloc ?_ _)); refine blk_put (cs := #[.bool false, .slice Ao29 t325.length co29, .slice Ao32 t332.length co32]) ?_ 0 _ (by first | rfl | (simp; done)); (with_reducible repeat (first | refine blk_drewN ?_ _ | refine blk_drew ?_ | refine blk_alloc ?_ _)); refine blk_put (cs := #[.bool false, .slice Ao29 t325.length co29, .slice Ao32 t332.length co32]) ?_ 0 _ (by first | rfl | (simp; done)); (with_reducible repeat (first | refine blk_drewN ?_ _ | refine blk_drew ?_ | refine blk_alloc ?_ _)); refine blk_put (cs := #[.bool false, .slice Ao29 t325.length co29, .slice none 0 0]) ?_ 2 _ (by first | rfl | (simp; done)); (with_reducible repeat (first | refine blk_drewN ?_ _ | refine blk_drew ?_ | refine blk_alloc ?_ _)); exact BK320.out) Try.underlying44 rfl (by kernel_rfl)) rfl ?_
    exact ⟨_, _, by first | rfl | (simp [errW_none, errW_some] <;> rfl) | (simp [*, errW_none, errW_some] <;> rfl), by (with_reducible repeat (first | apply Kd.R_alloc | apply Kd.R_drewN | apply Kd.R_drew)); exact Kd.R_mono (Kd.R_far (p := ⟨gb320, 2, none⟩) (Kd.R_far (p := ⟨gb320, 1, none⟩) (Kd.R_far (p := ⟨gb320, 0, none⟩) (Kd.R_far (p := ⟨gb320, 0, none⟩) (Kd.R_far (p := ⟨gb320, 2, none⟩) (Kd.R_types HO329.out BK320.out (by decide)) (fun _ hk => hk.2) (.slice Ao32 t332.length co32)) (fun _ hk => hk.2) (.bool false)) (fun _ hk => hk.2) (.bool false)) (fun _ hk => hk.2) (.slice Ao29 t325.length co29)) (fun _ hk => hk.2) (.slice Ao32 t332.length co32)) (fun _ hk => hk.1.1.2), by (with_reducible repeat (first | apply Kd.R_alloc | apply Kd.R_drewN | apply Kd.R_drew)); exact Kd.R_mono (Kd.R_far (p := ⟨gb320, 2, none⟩) (Kd.R_far (p := ⟨gb320, 1, none⟩) (Kd.R_far (p := ⟨gb320, 0, none⟩) (Kd.R_far (p := ⟨gb320, 0, none⟩) (Kd.R_far (p := ⟨gb320, 2, none⟩) (Kd.R_types HO336.out BK320.out (by decide)) (fun _ hk => hk.2) (.slice Ao32 t332.length co32)) (fun _ hk => hk.2) (.bool false)) (fun _ hk => hk.2) (.bool false)) (fun _ hk => hk.2) (.slice Ao29 t325.length co29)) (fun _ hk => hk.2) (.slice Ao32 t332.length co32)) (fun _ hk => hk.1.1.2), by repeat (first | (with_reducible first | exact HB.out | apply below_alloc | apply pw_below_drewN | apply below_drew1 | refine below_set ?_ GE320.out) | exact HB.out)⟩
 ·
  rw [if_neg c5] at H
  have c5b0 : (t322 == 0) = false := beq_eq_false_iff_ne.mpr c5
  have c5b1 : (t322 != 0) = true := bne_iff_ne.mpr c5
  simp only [Option.some.injEq, Prod.mk.injEq] at H
  obtain ⟨rfl, rfl, rfl, rfl⟩ := H
  go_enter Try.func24, Try.ntmps24
  go_wp2_with (first | ((with_reducible refine gate_dst (N := 6) rfl ?_); refine box_event ?hg (N := 6) ?hd (cs := #[.bool false, .slice none 0 0, .slice none 0 0]) (t := 44) ?hr ?_; (case hd => rfl); (case hg => rfl); (case hr => exact gs_); intro gb320 hg w34 hbox hb; have n0_ := Aside0.mk (below_step (bb_ HB) hb); have n1_ := Aside0.mk (hbox); have n2_ := Aside0.mk ((by rw [hg]; exact (below_size (bb_ HB)) : w.heap.size ≤ gb320)); have n3_ := Aside0.mk ((by rw [hg]; exact (below_size (bb_ HB)) : w.heap.size ≤ gb320)); clear HB; have HB := n0_; have BK320 := n1_; have GW320 := n2_; have GE320 := n3_; clear n0_ n1_ n2_ n3_; clear hb hbox hg) | ((with_reducible refine gate_callee (f := 71) rfl ?_); refine goesL_ (some 12) rfl rfl Try.func71 (by kernel_rfl) rfl #[.slice A1 l1.length c1, .slice A2 l2.length c2] rfl mt_ ?_; (with_reducible refine (quot_Gcd.calls k _ _ l1 _ _ l2 t321 t322 _ ?side1 ?side2 ?side3 ?side4 A4.out).mono ?_); (case side1 => exact cc_ (Kd.C_below HR1.out HB.out)); (case side2 => exact HC1.out); (case side3 => exact cc_ (Kd.C_below HR2.out HB.out)); (case side4 => exact HC2.out); rintro e w35 ⟨v323, rfl, ho0, hb⟩; refine ⟨_, rfl, ?_⟩; have n0_ := Aside0.mk (Kd.R_lower ho0 (below_size (bb1_ HB GE320))); have n1_ := Aside0.mk (blk_below (g := gb320) (o := .cells #[.bool false, .slice none 0 0, .slice none 0 0] 44 (0, 0)) (kb_ BK320) hb); have n2_ := Aside0.mk (below_step (bb1_ HB GE320) hb); clear BK320; clear HB; have HO324 := n0_; have BK320 := n1_; have HB := n2_; clear n0_ n1_ n2_; (try clear hb); (try clear hb2); (try clear hk); (try clear hi); (try clear ho0); have hcz36_0 : w35.cell? ⟨gb320, 0, none⟩ = some (.bool false) := (blk_cell BK320.out 0).trans rfl; have hcz36_1 : w35.cell? ⟨gb320, 1, none⟩ = some (.slice none 0 0) := (blk_cell BK320.out 1).trans rfl; have hcz36_2 : w35.cell? ⟨gb320, 2, none⟩ = some (.slice none 0 0) := (blk_cell BK320.out 2).trans rfl; have hfz36_0 := blk_frozen BK320.out 0; have hfz36_1 := blk_frozen BK320.out 1; have hfz36_2 := blk_frozen BK320.out 2))
  refine bodyPost_ret (results_ct rfl _ _ gb320 44 #[.bool false, .slice none 0 0, .slice none 0 0] (0, 0) _ rfl (by (with_reducible repeat (first | refine blk_drewN ?_ _ | refine blk_drew ?_ | refine blk_alloc ?_ _)); refine blk_put (cs := #[.bool false, .slice none 0 0, .slice none 0 0]) ?_ 2 _ (by first | rfl | (simp; done)); (with_reducible repeat (first | refine blk_drewN ?_ _ | refine blk_drew ?_ | refine blk_alloc ?_ _)); refine blk_put (cs := #[.bool false, .slice none 0 0, .slice none 0 0]) ?_ 1 _ (by first | rfl | (simp; done)); (with_reducible repeat (first | refine blk_drewN ?_ _ | refine blk_drew ?_ | refine blk_alloc ?_ _)); refine blk_put (cs := #[.bool false, .slice none 0 0, .slice none 0 0]) ?_ 0 _ (by first | rfl | (simp; done)); (with_reducible repeat (first | refine blk_drewN ?_ _ | refine blk_drew ?_ | refine blk_alloc ?_ _)); exact BK320.out) Try.underlying44 rfl (by kernel_rfl)) rfl ?_
  exact ⟨_, _, by first | rfl | (simp [errW_none, errW_some] <;> rfl) | (simp [*, errW_none, errW_some] <;> rfl), by first | exact Kd.R_nil _ _ _ _ _ | exact Kd.N_nil _ _ _ _ _ | exact Kd.V_nil _ _ _ _ _ | exact Kd.Q_nil _ _ _ _ _ | exact Kd.S_nil _ _ _ _ _, by first | exact Kd.R_nil _ _ _ _ _ | exact Kd.N_nil _ _ _ _ _ | exact Kd.V_nil _ _ _ _ _ | exact Kd.Q_nil _ _ _ _ _ | exact Kd.S_nil _ _ _ _ _, by repeat (first | (with_reducible first | exact HB.out | apply below_alloc | apply pw_below_drewN | apply below_drew1 | refine below_set ?_ GE320.out) | exact HB.out)⟩

end Go.Proofs.Ytijgeonhbmgikaa.PORatioOne
