-- Written by a program of this session (pr.py, over the kit's print.py).
import Derived.Test.YtijgeonhbmgikaaPORatioOnex0
import Derived.Test.YtijgeonhbmgikaaPORatioOnex2
import Derived.Test.YtijgeonhbmgikaaPORatioOnex3
import Derived.Test.YtijgeonhbmgikaaPORatioOnex4
import Derived.Test.YtijgeonhbmgikaaPORatioOnex6
import Derived.Test.YtijgeonhbmgikaaPORatioOnex7
import Derived.Test.YtijgeonhbmgikaaPORatioOnex9
import Derived.Test.YtijgeonhbmgikaaPORatioOnex10
namespace Go.Proofs.Ytijgeonhbmgikaa.PORatioOne
open Go.RowKit Go.Proofs.YtijgeonhbmgikaaN Go.Proofs.YtijgeonhbmgikaaW.PrintWords Go.Proofs.YtijgeonhbmgikaaW.PrintLast Go.Proofs.YtijgeonhbmgikaaW.PrintMore
attribute [local go_sem] max2_int min2_int max_two min_two max_three min_three max_four min_four   -- for this text's walks alone
set_option linter.unusedVariables false
set_option linter.unusedSimpArgs false

/-! ### limb_Add: function 108 -/
mutual
def limb_Add.l0 : Nat → List Int → List Int → Int → Int → Option (List Int)
 | 0, _, _, _, _ => none
 | k + 1, x1, x5, x6, x7 => if x7 < (x1.length : Int) then (limb_Add.j1 k x1 x5 x6 x7 true) else (limb_Add.j1 k x1 x5 x6 x7 (decide (x6 > 0)))
def limb_Add.j1 : Nat → List Int → List Int → Int → Int → Bool → Option (List Int)
 | 0, _, _, _, _, _ => none
 | k + 1, x1, x5, x6, x7, x24 => if x24 = true then (if x7 ≥ (x5.length : Int) then (if x5.length < 17592186044416 then ((some (x5 ++ [0] : List Int)).bind fun y378 => (if x7 < (x1.length : Int) then (if 0 ≤ x7 then (if x7 < (y378.length : Int) then (if x6 ≤ 1 then (limb_Add.l0 k x1 (y378.set (x7 : Int).toNat (ad64 (rd y378 x7) (rd x1 x7) x6)) (ac64 (rd y378 x7) (rd x1 x7) x6) (wrap64 (x7 + 1))) else (none)) else (none)) else (none)) else (if 0 ≤ x7 then (if x7 < (y378.length : Int) then (if x6 ≤ 1 then (limb_Add.l0 k x1 (y378.set (x7 : Int).toNat (ad64 (rd y378 x7) 0 x6)) (ac64 (rd y378 x7) 0 x6) (wrap64 (x7 + 1))) else (none)) else (none)) else (none)))) else (none)) else (if x7 < (x1.length : Int) then (if 0 ≤ x7 then (if x7 < (x5.length : Int) then (if x6 ≤ 1 then (limb_Add.l0 k x1 (x5.set (x7 : Int).toNat (ad64 (rd x5 x7) (rd x1 x7) x6)) (ac64 (rd x5 x7) (rd x1 x7) x6) (wrap64 (x7 + 1))) else (none)) else (none)) else (none)) else (if 0 ≤ x7 then (if x7 < (x5.length : Int) then (if x6 ≤ 1 then (limb_Add.l0 k x1 (x5.set (x7 : Int).toNat (ad64 (rd x5 x7) 0 x6)) (ac64 (rd x5 x7) 0 x6) (wrap64 (x7 + 1))) else (none)) else (none)) else (none)))) else ((limb_trim.f k x5).bind fun t375 => (some t375))
end
def limb_Add.f (k : Nat) (l0 : List Int) (l1 : List Int) : Option (List Int) := (limb_trim.f k l0).bind fun t366 => (if (t366.length : Int) = 0 then ((limb_Trim.f k l1).bind fun t369 => (some t369)) else ((limb_Trim.f k l0).bind fun t372 => (limb_Add.l0 k l1 t372 0 0)))
theorem limb_Add.mono_l : ∀ k, (∀ y0 y1 y2 y3, LeO (limb_Add.l0 k y0 y1 y2 y3) (limb_Add.l0 (k + 1) y0 y1 y2 y3)) ∧ (∀ y0 y1 y2 y3 y4, LeO (limb_Add.j1 k y0 y1 y2 y3 y4) (limb_Add.j1 (k + 1) y0 y1 y2 y3 y4))
 | 0 => ⟨fun _ _ _ _ r h => by simp [limb_Add.l0] at h, fun _ _ _ _ _ r h => by simp [limb_Add.j1] at h⟩
 | k + 1 => by
  obtain ⟨ih0, ih1⟩ := limb_Add.mono_l k
  refine ⟨?_, ?_⟩
  ·
   intro y0 y1 y2 y3
   unfold limb_Add.l0
   repeat' first
   | (with_reducible exact ih0 _ _ _ _)
   | (with_reducible exact ih1 _ _ _ _ _)
   | (with_reducible exact limb_Trim.mono _ _)
   | (with_reducible exact limb_trim.mono _ _)
   | (with_reducible exact LeO.refl _)
   | (with_reducible exact LeO.none _)
   | (with_reducible refine LeO.ite ?_ ?_)
   | (with_reducible refine LeO.bind ?_ (fun _ => ?_))
  ·
   intro y0 y1 y2 y3 y4
   unfold limb_Add.j1
   repeat' first
   | (with_reducible exact ih0 _ _ _ _)
   | (with_reducible exact ih1 _ _ _ _ _)
   | (with_reducible exact limb_Trim.mono _ _)
   | (with_reducible exact limb_trim.mono _ _)
   | (with_reducible exact LeO.refl _)
   | (with_reducible exact LeO.none _)
   | (with_reducible refine LeO.ite ?_ ?_)
   | (with_reducible refine LeO.bind ?_ (fun _ => ?_))
theorem limb_Add.mono : ∀ a0 a1 k, LeO (limb_Add.f k a0 a1) (limb_Add.f (k + 1) a0 a1) := by
 intro a0 a1 k
 obtain ⟨ih0, ih1⟩ := limb_Add.mono_l k
 unfold limb_Add.f
 repeat' first
   | (with_reducible exact ih0 _ _ _ _)
   | (with_reducible exact ih1 _ _ _ _ _)
   | (with_reducible exact limb_Trim.mono _ _)
   | (with_reducible exact limb_trim.mono _ _)
   | (with_reducible exact LeO.refl _)
   | (with_reducible exact LeO.none _)
   | (with_reducible refine LeO.ite ?_ ?_)
   | (with_reducible refine LeO.bind ?_ (fun _ => ?_))
set_option maxHeartbeats 8000000 in
set_option maxRecDepth 100000 in
theorem limb_Add.calls (k : Nat) (P0_ : Nat → Prop) (A0 : Option Addr) (c0 : Nat) (l0 : List Int) (A1 : Option Addr) (c1 : Nat) (l1 : List Int) (r : List Int) (w : World) (hs0 : Kd.V (Kd.int .u64) 22 w w.heap.size (fun k_ => P0_ k_) (.slice A0 l0.length c0) l0) (hr1 : Kd.C (Kd.int .u64) w A1 l1.length l1) (hc1 : l1.length ≤ c1) (h : limb_Add.f k l0 l1 = some r) :
  Calls Try.prog 108 #[.slice A0 l0.length c0, .slice A1 l1.length c1] w fun e w' => ∃ v0_ : Value, e = .returned (v0_) ∧ Kd.V (Kd.int .u64) 22 w' w.heap.size (fun k_ => (P0_ k_ ∨ w.heap.size ≤ k_)) v0_ r ∧ Below w.heap.size w w' := by
 have HO0 := Aside0.mk (show Kd.V (Kd.int .u64) 22 w w.heap.size (fun k_ => (P0_ k_ ∨ w.heap.size ≤ k_)) (.slice A0 l0.length c0) l0 from Kd.V_mono hs0 (fun k_ hk => .inl hk))
 have HR1 := Aside0.mk hr1
 have HC1 := Aside0.mk hc1
 clear hr1 hc1
 have HB := Aside0.mk (Below.refl w.heap.size w)
 have H : ((limb_trim.f k l0).bind fun t366 => (if (t366.length : Int) = 0 then ((limb_Trim.f k l1).bind fun t369 => (some t369)) else ((limb_Trim.f k l0).bind fun t372 => (limb_Add.l0 k l1 t372 0 0)))) = some r := h
 clear h
 replace H := Option.bind_eq_some_iff.mp H
 obtain ⟨t366, A30, H⟩ := H
 replace H : (if (t366.length : Int) = 0 then ((limb_Trim.f k l1).bind fun t369 => (some t369)) else ((limb_Trim.f k l0).bind fun t372 => (limb_Add.l0 k l1 t372 0 0))) = some r := H
 have A3 := Aside0.mk A30
 clear A30
 by_cases c4 : (t366.length : Int) = 0
 ·
  rw [if_pos c4] at H
  have c4b0 : ((t366.length : Int) == 0) = true := beq_iff_eq.mpr c4
  have c4b1 : ((t366.length : Int) != 0) = false := bne_eq_false_iff_eq.mpr c4
  clear c4
  replace H := Option.bind_eq_some_iff.mp H
  obtain ⟨t369, A50, H⟩ := H
  replace H : (some t369) = some r := H
  have A5 := Aside0.mk A50
  clear A50
  obtain rfl := Option.some.inj H
  go_enter Try.func108, Try.ntmps108
  go_wp2_with (first | ((with_reducible refine gate_callee (f := 110) rfl ?_); refine goesL_ (some 10) rfl rfl Try.func110 (by kernel_rfl) rfl #[.slice A0 l0.length c0] rfl mt_ ?_; (with_reducible refine (limb_trim.calls k (fun k_ => (P0_ k_ ∨ w.heap.size ≤ k_)) _ _ l0 t366 _ ?side1 A3.out).mono ?_); (case side1 => exact HO0.out); rintro e w6 ⟨v367, rfl, ho0, hb⟩; refine ⟨_, rfl, ?_⟩; have n0_ := Aside0.mk (Kd.V_below (rV_ HO0) hb); have n1_ := Aside0.mk (Kd.V_lower (Kd.V_mono (ok' := fun k_ => (P0_ k_ ∨ w.heap.size ≤ k_)) ho0 (fun k_ hk_ => Or.elim hk_ (fun hs_ => hs_) (fun hn_ => (.inr (Nat.le_trans (below_size (bb_ HB)) hn_))))) (below_size (bb_ HB))); have n2_ := Aside0.mk (below_step (bb_ HB) hb); clear HO0; clear HB; have HO0 := n0_; have HO368 := n1_; have HB := n2_; clear n0_ n1_ n2_; (try clear hb); (try clear hb2); (try clear hk); (try clear hi); (try clear ho0); obtain ⟨Ao7, co7, eo7⟩ := Kd.V_slice HO368.out; subst eo7) | ((with_reducible refine gate_callee (f := 96) rfl ?_); refine goesL_ (some 14) rfl rfl Try.func96 (by kernel_rfl) rfl #[.slice A1 l1.length c1] rfl mt_ ?_; (with_reducible refine (limb_Trim.calls k _ _ l1 t369 _ ?side1 ?side2 A5.out).mono ?_); (case side1 => exact cc_ (Kd.C_below HR1.out HB.out)); (case side2 => exact HC1.out); rintro e w8 ⟨v370, rfl, ho0, hb⟩; refine ⟨_, rfl, ?_⟩; have n0_ := Aside0.mk (Kd.V_elder' (rV_ HO0) (Kd.R_base ho0) hb); have n1_ := Aside0.mk (Kd.V_elder' (rV_ HO368) (Kd.R_base ho0) hb); have n2_ := Aside0.mk (Kd.R_lower (Kd.R_newM (M := fun k_ => (w.heap.size ≤ k_)) ho0 (below_size (bb_ HB)) (fun k_ h_ => h_)) (below_size (bb_ HB))); have n3_ := Aside0.mk (below_step (bb_ HB) hb); clear HO0; clear HO368; clear HB; have HO0 := n0_; have HO368 := n1_; have HO371 := n2_; have HB := n3_; clear n0_ n1_ n2_ n3_; (try clear hb); (try clear hb2); (try clear hk); (try clear hi); (try clear ho0)))
  go_ret
  exact ⟨_, by first | rfl | (simp [errW_none, errW_some] <;> rfl) | (simp [*, errW_none, errW_some] <;> rfl), Kd.V_mono (Kd.R_V (by (with_reducible repeat (first | apply Kd.R_alloc | apply Kd.R_drewN | apply Kd.R_drew)); exact Kd.R_mono HO371.out (fun _ hk => hk.1))) (fun k_ hk => by first | exact ⟨(.inr (hk.1)), hk.2⟩ | exact (.inr (hk))), by repeat (first | (with_reducible first | exact HB.out | apply below_alloc | apply pw_below_drewN | apply below_drew1) | exact HB.out)⟩
 ·
  rw [if_neg c4] at H
  have c4b0 : ((t366.length : Int) == 0) = false := beq_eq_false_iff_ne.mpr c4
  have c4b1 : ((t366.length : Int) != 0) = true := bne_iff_ne.mpr c4
  have c4b2 : ¬ (t366 = []) := fun h_ => c4 (by rw [h_]; rfl)
  replace H := Option.bind_eq_some_iff.mp H
  obtain ⟨t372, A90, H⟩ := H
  replace H : (limb_Add.l0 k l1 t372 0 0) = some r := H
  have A9 := Aside0.mk A90
  clear A90
  have H' := Aside0.mk H
  clear H
  go_enter Try.func108, Try.ntmps108
  go_wp2_with (first | ((with_reducible refine gate_callee (f := 110) rfl ?_); refine goesL_ (some 10) rfl rfl Try.func110 (by kernel_rfl) rfl #[.slice A0 l0.length c0] rfl mt_ ?_; (with_reducible refine (limb_trim.calls k (fun k_ => (P0_ k_ ∨ w.heap.size ≤ k_)) _ _ l0 t366 _ ?side1 A3.out).mono ?_); (case side1 => exact HO0.out); rintro e w10 ⟨v367, rfl, ho0, hb⟩; refine ⟨_, rfl, ?_⟩; have n0_ := Aside0.mk (Kd.V_below (rV_ HO0) hb); have n1_ := Aside0.mk (Kd.V_lower (Kd.V_mono (ok' := fun k_ => (P0_ k_ ∨ w.heap.size ≤ k_)) ho0 (fun k_ hk_ => Or.elim hk_ (fun hs_ => hs_) (fun hn_ => (.inr (Nat.le_trans (below_size (bb_ HB)) hn_))))) (below_size (bb_ HB))); have n2_ := Aside0.mk (below_step (bb_ HB) hb); clear HO0; clear HB; have HO0 := n0_; have HO368 := n1_; have HB := n2_; clear n0_ n1_ n2_; (try clear hb); (try clear hb2); (try clear hk); (try clear hi); (try clear ho0); obtain ⟨Ao11, co11, eo11⟩ := Kd.V_slice HO368.out; subst eo11) | ((with_reducible refine gate_callee (f := 96) rfl ?_); refine goesL_ (some 16) rfl rfl Try.func96 (by kernel_rfl) rfl #[.slice A0 l0.length c0] rfl mt_ ?_; (with_reducible refine (limb_Trim.calls k _ _ l0 t372 _ ?side1 ?side2 A9.out).mono ?_); (case side1 => repeat (first | exact (Kd.V_reads' HO0.out).2.2 | (with_reducible refine Kd.C_alloc ?_ _) | (with_reducible refine Kd.C_drewN ?_ _) | (with_reducible refine Kd.C_drew ?_))); (case side2 => exact (Kd.V_reads' HO0.out).2.1); rintro e w12 ⟨v373, rfl, ho0, hb⟩; refine ⟨_, rfl, ?_⟩; have n0_ := Aside0.mk (Kd.V_elder' (rV_ HO0) (Kd.R_base ho0) hb); have n1_ := Aside0.mk (Kd.V_elder' (rV_ HO368) (Kd.R_base ho0) hb); have n2_ := Aside0.mk (Kd.R_lower (Kd.R_newM (M := fun k_ => (w.heap.size ≤ k_)) ho0 (below_size (bb_ HB)) (fun k_ h_ => h_)) (below_size (bb_ HB))); have n3_ := Aside0.mk (below_step (bb_ HB) hb); clear HO0; clear HO368; clear HB; have HO0 := n0_; have HO368 := n1_; have HO374 := n2_; have HB := n3_; clear n0_ n1_ n2_ n3_; (try clear hb); (try clear hb2); (try clear hk); (try clear hi); (try clear ho0)))
  go_loopg [5, 6, 7] k (fun kq v5 v6 v7 w' => ∃ (x5_1 : List Int) (x6_1 : Int) (x7_1 : Int), v6 = .int .u64 x6_1 ∧ v7 = .int .i64 x7_1 ∧ Aside0 (limb_Add.l0 kq l1 x5_1 x6_1 x7_1 = some r) ∧ Aside0 (kq ≤ k) ∧ Aside0 (Kd.R (Kd.int .u64) 22 w' w.heap.size (fun k_ => (w.heap.size ≤ k_)) v5 x5_1) ∧ Aside0 (Below w.heap.size w w'))
  case atStart => exact ⟨(t372), (0), (0), sd_, sd_, H', ⟨Nat.le_refl _⟩, ⟨by (with_reducible repeat (first | apply Kd.R_alloc | apply Kd.R_drewN | apply Kd.R_drew)); exact Kd.R_mono HO374.out (fun _ hk => hk.1)⟩, ⟨by repeat (first | (with_reducible first | exact HB.out | apply below_alloc | apply pw_below_drewN | apply below_drew1) | exact HB.out)⟩⟩
  case round =>
   clear H'
   try clear c1
   try clear p2
   try clear c4
   try clear c4b0
   try clear c4b1
   try clear c4b2
   try clear c9
   try clear c10
   try clear c11
   obtain ⟨x5_1, x6_1, x7_1, rfl, rfl, HA, HK1, HO_5, HB⟩ := hrel
   cases gk with
   | zero => exact absurd HA.out (by simp [limb_Add.l0])
   | succ k1 =>
    have H := HA.out
    clear HA
    simp only [limb_Add.l0] at H
    have HC13 := Aside0.mk H
    clear H
    go_upto_region 6 with (fail)
    go_cut [24] (fun v24 wc => ∃ (kq : Nat) (x24_12 : Bool), v24 = .bool x24_12 ∧ Aside0 (limb_Add.j1 kq l1 x5_1 x6_1 x7_1 x24_12 = some r) ∧ Aside0 (kq ≤ k1) ∧ Aside0 (Kd.R (Kd.int .u64) 22 wc w.heap.size (fun k_ => (w.heap.size ≤ k_)) u5 x5_1) ∧ Aside0 (Below w.heap.size w wc))
    case first =>
     have H := HC13.out
     clear HC13
     by_cases c14 : x7_1 < (l1.length : Int)
     ·
      rw [if_pos c14] at H
      have c14b0 : decide (x7_1 < (l1.length : Int)) = true := decide_eq_true c14
      clear c14
      (first | rw [c14b0] | (simp only [i64_w, i32_w]; rw [c14b0]) | skip)
      have H' := Aside0.mk H
      clear H
      go_wp2
      go_meet
      case rel => exact ⟨_, (true), sd_, H', ⟨by have := HK1.out; first | omega | exact Nat.le_refl _⟩, ⟨by (with_reducible repeat (first | apply Kd.R_alloc | apply Kd.R_drewN | apply Kd.R_drew)); exact HO_5.out⟩, ⟨by repeat (first | (with_reducible first | exact HB.out | apply below_alloc | apply pw_below_drewN | apply below_drew1) | exact HB.out)⟩⟩
     ·
      rw [if_neg c14] at H
      have c14b0 : decide (x7_1 < (l1.length : Int)) = false := decide_eq_false c14
      clear c14
      (first | rw [c14b0] | (simp only [i64_w, i32_w]; rw [c14b0]) | skip)
      have H' := Aside0.mk H
      clear H
      go_wp2
      go_meet
      case rel => exact ⟨_, (decide (x6_1 > 0)), sd_, H', ⟨by have := HK1.out; first | omega | exact Nat.le_refl _⟩, ⟨by (with_reducible repeat (first | apply Kd.R_alloc | apply Kd.R_drewN | apply Kd.R_drew)); exact HO_5.out⟩, ⟨by repeat (first | (with_reducible first | exact HB.out | apply below_alloc | apply pw_below_drewN | apply below_drew1) | exact HB.out)⟩⟩
    case rest =>
     clear HC13
     try clear c1
     try clear p2
     try clear c4
     try clear c4b0
     try clear c4b1
     try clear c4b2
     try clear c9
     try clear c10
     try clear c11
     try clear c14
     try clear c14b0
     try clear p2
     obtain ⟨kq, x24_12, rfl, HA, HJ12, HO_5, HB⟩ := hcut
     cases kq with
     | zero => exact absurd HA.out (by simp [limb_Add.j1])
     | succ kj12 =>
      have H := HA.out
      clear HA
      simp only [limb_Add.j1] at H
      by_cases c15 : x24_12 = true
      ·
       subst c15
       have H1 : (if x7_1 ≥ (x5_1.length : Int) then (if x5_1.length < 17592186044416 then ((some (x5_1 ++ [0] : List Int)).bind fun y378 => (if x7_1 < (l1.length : Int) then (if 0 ≤ x7_1 then (if x7_1 < (y378.length : Int) then (if x6_1 ≤ 1 then (limb_Add.l0 kj12 l1 (y378.set (x7_1 : Int).toNat (ad64 (rd y378 x7_1) (rd l1 x7_1) x6_1)) (ac64 (rd y378 x7_1) (rd l1 x7_1) x6_1) (wrap64 (x7_1 + 1))) else (none)) else (none)) else (none)) else (if 0 ≤ x7_1 then (if x7_1 < (y378.length : Int) then (if x6_1 ≤ 1 then (limb_Add.l0 kj12 l1 (y378.set (x7_1 : Int).toNat (ad64 (rd y378 x7_1) 0 x6_1)) (ac64 (rd y378 x7_1) 0 x6_1) (wrap64 (x7_1 + 1))) else (none)) else (none)) else (none)))) else (none)) else (if x7_1 < (l1.length : Int) then (if 0 ≤ x7_1 then (if x7_1 < (x5_1.length : Int) then (if x6_1 ≤ 1 then (limb_Add.l0 kj12 l1 (x5_1.set (x7_1 : Int).toNat (ad64 (rd x5_1 x7_1) (rd l1 x7_1) x6_1)) (ac64 (rd x5_1 x7_1) (rd l1 x7_1) x6_1) (wrap64 (x7_1 + 1))) else (none)) else (none)) else (none)) else (if 0 ≤ x7_1 then (if x7_1 < (x5_1.length : Int) then (if x6_1 ≤ 1 then (limb_Add.l0 kj12 l1 (x5_1.set (x7_1 : Int).toNat (ad64 (rd x5_1 x7_1) 0 x6_1)) (ac64 (rd x5_1 x7_1) 0 x6_1) (wrap64 (x7_1 + 1))) else (none)) else (none)) else (none)))) = some r := by rw [if_pos rfl] at H; exact H
       clear H
       have H := H1
       clear H1
       by_cases c16 : x7_1 ≥ (x5_1.length : Int)
       ·
        rw [if_pos c16] at H
        have c16b0 : decide ((x5_1.length : Int) ≤ x7_1) = true := decide_eq_true c16
        clear c16
        by_cases c17 : x5_1.length < 17592186044416
        ·
         rw [if_pos c17] at H
         have LMc17 := Aside0.mk c17
         clear c17
         obtain ⟨y378, hy378⟩ : ∃ y_ : List Int, y_ = (x5_1 ++ [0]) := ⟨_, rfl⟩
         replace H : (if x7_1 < (l1.length : Int) then (if 0 ≤ x7_1 then (if x7_1 < (y378.length : Int) then (if x6_1 ≤ 1 then (limb_Add.l0 kj12 l1 (y378.set (x7_1 : Int).toNat (ad64 (rd y378 x7_1) (rd l1 x7_1) x6_1)) (ac64 (rd y378 x7_1) (rd l1 x7_1) x6_1) (wrap64 (x7_1 + 1))) else (none)) else (none)) else (none)) else (if 0 ≤ x7_1 then (if x7_1 < (y378.length : Int) then (if x6_1 ≤ 1 then (limb_Add.l0 kj12 l1 (y378.set (x7_1 : Int).toNat (ad64 (rd y378 x7_1) 0 x6_1)) (ac64 (rd y378 x7_1) 0 x6_1) (wrap64 (x7_1 + 1))) else (none)) else (none)) else (none))) = some r := by first | (rw [hy378]; with_reducible exact H) | (have H2_ := (Option.bind_some _ _).symm.trans H; rw [hy378]; with_reducible exact H2_) | (have H2_ := (Option.bind_some _ _).symm.trans H; with_reducible exact H2_) | with_reducible exact H | (rw [hy378]; exact H) | exact H
         have Ny378 := Aside0.mk hy378
         clear hy378
         by_cases c18 : x7_1 < (l1.length : Int)
         ·
          rw [if_pos c18] at H
          have c18b0 : decide (x7_1 < (l1.length : Int)) = true := decide_eq_true c18
          clear c18
          by_cases c19 : 0 ≤ x7_1
          ·
           rw [if_pos c19] at H
           have c19b0 : decide (0 ≤ x7_1) = true := decide_eq_true c19
           clear c19
           by_cases c20 : x7_1 < (y378.length : Int)
           ·
            rw [if_pos c20] at H
            have c20b0 : decide (x7_1 < (y378.length : Int)) = true := decide_eq_true c20
            clear c20
            by_cases c21 : x6_1 ≤ 1
            ·
             rw [if_pos c21] at H
             have c21b0 : decide (x6_1 ≤ 1) = true := decide_eq_true c21
             clear c21
             obtain ⟨y383, hy383⟩ : ∃ y_ : List Int, y_ = (y378.set (x7_1 : Int).toNat (ad64 (rd y378 x7_1) (rd l1 x7_1) x6_1)) := ⟨_, rfl⟩
             replace H : (limb_Add.l0 kj12 l1 y383 (ac64 (rd y378 x7_1) (rd l1 x7_1) x6_1) (wrap64 (x7_1 + 1))) = some r := by first | (rw [hy383]; with_reducible exact H) | (have H2_ := (Option.bind_some _ _).symm.trans H; rw [hy383]; with_reducible exact H2_) | (have H2_ := (Option.bind_some _ _).symm.trans H; with_reducible exact H2_) | with_reducible exact H | (rw [hy383]; exact H) | exact H
             have Ny383 := Aside0.mk hy383
             clear hy383
             have H' := Aside0.mk H
             clear H
             obtain ⟨Ao23, co23, eo23⟩ := Kd.R_slice HO_5.out
             subst eo23
             go_wp2_with (first | ((with_reducible refine gate_builtin (b := .append) (xs := #[.tmp 31, .tmp 32]) rfl ?_); at_builtin; refine Kd.R_append (Kd.int .u64) (w0 := w) w.heap.size rfl (.tmp 31) (.tmp 32) 35 22 (.int .u64 0) 8 rfl Try.underlying35 info22 rfl (by decide) (by omega) (.slice Ao23 x5_1.length co23) x5_1 0 [.int .u64 0] (fun k_ => (w.heap.size ≤ k_)) (fun _ => False) rfl rfl ?aP (fun _ hk => hk.elim) ?aF ?aO ?aB ?aS ?aL ?_; (case aP => exact rfl); (case aB => exact (bb_ HB)); (case aF => exact (fun k_ hk => (Nat.le_trans (below_size (bb_ HB)) hk))); (case aO => exact (rR_ HO_5)); (case aS => exact (below_size (bb_ HB))); (case aL => have := LMc17.out; omega); intro v379 w24 ho hb hg hat; rw [← Ny378.out] at ho; have n0_ := Aside0.mk (hb); have n1_ := Aside0.mk (ho); clear HB; clear HO_5; have HB := n0_; have HO380 := n1_; clear n0_ n1_; clear ho hb hg hat; have p381 : 0 ≤ (x7_1 : Int) := of_decide_eq_true am_; have q381 : x7_1 < (l1.length : Int) := of_decide_eq_true am_; obtain ⟨ad381, e381, hx381_0⟩ := Kd.at_int HR1.out x7_1 p381 q381; cases e381; replace hx381_0 := (HB.out.cell (World.block_lt_of_cell? w _ hx381_0)).trans hx381_0; replace p381 := eq_true p381; replace q381 := eq_true q381; obtain ⟨Ao25, co25, eo25⟩ := Kd.R_slice HO380.out; subst eo25; have p382 : 0 ≤ (x7_1 : Int) := of_decide_eq_true am_; have q382 : x7_1 < (y378.length : Int) := of_decide_eq_true am_; obtain ⟨ad382, e382, hx382_0⟩ := Kd.at_int (Kd.R_reads' HO380.out).2.2 x7_1 p382 q382; cases e382; replace p382 := eq_true p382; replace q382 := eq_true q382; have p22 : 0 ≤ (x7_1 : Int) := of_decide_eq_true am_; have q22 : (x7_1 : Int) < ((y378.length : Int) : Int) := of_decide_eq_true am_; obtain ⟨go22, co22, eo22, gb22, gl22, cl22, HG22⟩ := Kd.R_form HO380.out (by omega); (first | cases eo22 | (injection eo22 with ea_ en_ ec_; (first | subst ea_ | (injection ea_ with ea_; subst ea_)); subst ec_; clear en_)); have GB22 := Aside0.mk gb22; have GG22 := Aside0.mk HG22; clear gb22 gl22 HG22; (first | simp only [add_plain] at hx382_0 | skip); obtain ⟨hx22_0, hf22_0⟩ := Kd.R_celln 0 HO380.out (x7_1 : Int) p22 q22; replace p22 := eq_true p22; replace q22 := eq_true q22; obtain ⟨hy26_, hz26_⟩ := Kd.R_celln 0 HO380.out (x7_1 : Int) (of_decide_eq_true am_) (of_decide_eq_true am_); have HP26 := Kd.R_putg HO380.out (x7_1 : Int) (ad64 (rd y378 x7_1) (rd l1 x7_1) x6_1)) | ((with_reducible refine gate_store (t := 22) (p := 54) rfl ?_); refine store_event (t := 22) (p := 54) (v := ?vo_w27) (w1 := (w24.setCell ⟨go22, (x7_1 : Int).toNat, none⟩ (.int .u64 (ad64 (rd y378 x7_1) (rd l1 x7_1) x6_1)))) ?hg ?ho ?hn ?hr ?_; (case ho => rfl); (case hg => rfl); (case hn => rfl); (case hr => exact gs_); intro w27 hw; have hg : w24.grownBy w27 (some go22) := (by rw [hw]; exact HP26.2); have hp_ : Kd.R (Kd.int .u64) 22 w27 w.heap.size (fun k_ => (w.heap.size ≤ k_)) (.slice (some ⟨go22, 0, none⟩) y378.length co25) y383 := (by rw [hw, Ny383.out]; exact HP26.1); clear HP26; have n0_ := Aside0.mk (hp_); have n1_ := Aside0.mk ((by rw [hw]; exact below_set (HB.out) GB22.out : Below w.heap.size w w27)); clear HO380; clear HB; have HO380 := n0_; have HB := n1_; clear n0_ n1_; clear hg hw hp_))
             go_roundg kj12
             case measure => have := HK1.out; have := HJ12.out; omega
             case rel => exact ⟨(y383), (ac64 (rd y378 x7_1) (rd l1 x7_1) x6_1), (wrap64 (x7_1 + 1)), sd_, sd_, H', ⟨by have := HK1.out; have := HJ12.out; omega⟩, ⟨by (with_reducible repeat (first | apply Kd.R_alloc | apply Kd.R_drewN | apply Kd.R_drew)); exact HO380.out⟩, ⟨by repeat (first | (with_reducible first | exact HB.out | apply below_alloc | apply pw_below_drewN | apply below_drew1) | exact HB.out)⟩⟩
            ·
             rw [if_neg c21] at H
             exact absurd H (by simp)
           ·
            rw [if_neg c20] at H
            exact absurd H (by simp)
          ·
           rw [if_neg c19] at H
           exact absurd H (by simp)
         ·
          rw [if_neg c18] at H
          have c18b0 : decide (x7_1 < (l1.length : Int)) = false := decide_eq_false c18
          clear c18
          by_cases c28 : 0 ≤ x7_1
          ·
           rw [if_pos c28] at H
           have c28b0 : decide (0 ≤ x7_1) = true := decide_eq_true c28
           clear c28
           by_cases c29 : x7_1 < (y378.length : Int)
           ·
            rw [if_pos c29] at H
            have c29b0 : decide (x7_1 < (y378.length : Int)) = true := decide_eq_true c29
            clear c29
            by_cases c30 : x6_1 ≤ 1
            ·
             rw [if_pos c30] at H
             have c30b0 : decide (x6_1 ≤ 1) = true := decide_eq_true c30
             clear c30
             obtain ⟨y385, hy385⟩ : ∃ y_ : List Int, y_ = (y378.set (x7_1 : Int).toNat (ad64 (rd y378 x7_1) 0 x6_1)) := ⟨_, rfl⟩
             replace H : (limb_Add.l0 kj12 l1 y385 (ac64 (rd y378 x7_1) 0 x6_1) (wrap64 (x7_1 + 1))) = some r := by first | (rw [hy385]; with_reducible exact H) | (have H2_ := (Option.bind_some _ _).symm.trans H; rw [hy385]; with_reducible exact H2_) | (have H2_ := (Option.bind_some _ _).symm.trans H; with_reducible exact H2_) | with_reducible exact H | (rw [hy385]; exact H) | exact H
             have Ny385 := Aside0.mk hy385
             clear hy385
             have H' := Aside0.mk H
             clear H
             obtain ⟨Ao32, co32, eo32⟩ := Kd.R_slice HO_5.out
             subst eo32
             go_wp2_with (first | ((with_reducible refine gate_builtin (b := .append) (xs := #[.tmp 31, .tmp 32]) rfl ?_); at_builtin; refine Kd.R_append (Kd.int .u64) (w0 := w) w.heap.size rfl (.tmp 31) (.tmp 32) 35 22 (.int .u64 0) 8 rfl Try.underlying35 info22 rfl (by decide) (by omega) (.slice Ao32 x5_1.length co32) x5_1 0 [.int .u64 0] (fun k_ => (w.heap.size ≤ k_)) (fun _ => False) rfl rfl ?aP (fun _ hk => hk.elim) ?aF ?aO ?aB ?aS ?aL ?_; (case aP => exact rfl); (case aB => exact (bb_ HB)); (case aF => exact (fun k_ hk => (Nat.le_trans (below_size (bb_ HB)) hk))); (case aO => exact (rR_ HO_5)); (case aS => exact (below_size (bb_ HB))); (case aL => have := LMc17.out; omega); intro v379 w33 ho hb hg hat; rw [← Ny378.out] at ho; have n0_ := Aside0.mk (hb); have n1_ := Aside0.mk (ho); clear HB; clear HO_5; have HB := n0_; have HO380 := n1_; clear n0_ n1_; clear ho hb hg hat; obtain ⟨Ao34, co34, eo34⟩ := Kd.R_slice HO380.out; subst eo34; have p384 : 0 ≤ (x7_1 : Int) := of_decide_eq_true am_; have q384 : x7_1 < (y378.length : Int) := of_decide_eq_true am_; obtain ⟨ad384, e384, hx384_0⟩ := Kd.at_int (Kd.R_reads' HO380.out).2.2 x7_1 p384 q384; cases e384; replace p384 := eq_true p384; replace q384 := eq_true q384; have p31 : 0 ≤ (x7_1 : Int) := of_decide_eq_true am_; have q31 : (x7_1 : Int) < ((y378.length : Int) : Int) := of_decide_eq_true am_; obtain ⟨go31, co31, eo31, gb31, gl31, cl31, HG31⟩ := Kd.R_form HO380.out (by omega); (first | cases eo31 | (injection eo31 with ea_ en_ ec_; (first | subst ea_ | (injection ea_ with ea_; subst ea_)); subst ec_; clear en_)); have GB31 := Aside0.mk gb31; have GG31 := Aside0.mk HG31; clear gb31 gl31 HG31; (first | simp only [add_plain] at hx384_0 | skip); obtain ⟨hx31_0, hf31_0⟩ := Kd.R_celln 0 HO380.out (x7_1 : Int) p31 q31; replace p31 := eq_true p31; replace q31 := eq_true q31; obtain ⟨hy35_, hz35_⟩ := Kd.R_celln 0 HO380.out (x7_1 : Int) (of_decide_eq_true am_) (of_decide_eq_true am_); have HP35 := Kd.R_putg HO380.out (x7_1 : Int) (ad64 (rd y378 x7_1) 0 x6_1)) | ((with_reducible refine gate_store (t := 22) (p := 54) rfl ?_); refine store_event (t := 22) (p := 54) (v := ?vo_w36) (w1 := (w33.setCell ⟨go31, (x7_1 : Int).toNat, none⟩ (.int .u64 (ad64 (rd y378 x7_1) 0 x6_1)))) ?hg ?ho ?hn ?hr ?_; (case ho => rfl); (case hg => rfl); (case hn => rfl); (case hr => exact gs_); intro w36 hw; have hg : w33.grownBy w36 (some go31) := (by rw [hw]; exact HP35.2); have hp_ : Kd.R (Kd.int .u64) 22 w36 w.heap.size (fun k_ => (w.heap.size ≤ k_)) (.slice (some ⟨go31, 0, none⟩) y378.length co34) y385 := (by rw [hw, Ny385.out]; exact HP35.1); clear HP35; have n0_ := Aside0.mk (hp_); have n1_ := Aside0.mk ((by rw [hw]; exact below_set (HB.out) GB31.out : Below w.heap.size w w36)); clear HO380; clear HB; have HO380 := n0_; have HB := n1_; clear n0_ n1_; clear hg hw hp_))
             go_roundg kj12
             case measure => have := HK1.out; have := HJ12.out; omega
             case rel => exact ⟨(y385), (ac64 (rd y378 x7_1) 0 x6_1), (wrap64 (x7_1 + 1)), sd_, sd_, H', ⟨by have := HK1.out; have := HJ12.out; omega⟩, ⟨by (with_reducible repeat (first | apply Kd.R_alloc | apply Kd.R_drewN | apply Kd.R_drew)); exact HO380.out⟩, ⟨by repeat (first | (with_reducible first | exact HB.out | apply below_alloc | apply pw_below_drewN | apply below_drew1) | exact HB.out)⟩⟩
            ·
             rw [if_neg c30] at H
             exact absurd H (by simp)
           ·
            rw [if_neg c29] at H
            exact absurd H (by simp)
          ·
           rw [if_neg c28] at H
           exact absurd H (by simp)
        ·
         rw [if_neg c17] at H
         exact absurd H (by simp)
       ·
        rw [if_neg c16] at H
        have c16b0 : decide ((x5_1.length : Int) ≤ x7_1) = false := decide_eq_false c16
        clear c16
        by_cases c37 : x7_1 < (l1.length : Int)
        ·
         rw [if_pos c37] at H
         have c37b0 : decide (x7_1 < (l1.length : Int)) = true := decide_eq_true c37
         clear c37
         by_cases c38 : 0 ≤ x7_1
         ·
          rw [if_pos c38] at H
          have c38b0 : decide (0 ≤ x7_1) = true := decide_eq_true c38
          clear c38
          by_cases c39 : x7_1 < (x5_1.length : Int)
          ·
           rw [if_pos c39] at H
           have c39b0 : decide (x7_1 < (x5_1.length : Int)) = true := decide_eq_true c39
           clear c39
           by_cases c40 : x6_1 ≤ 1
           ·
            rw [if_pos c40] at H
            have c40b0 : decide (x6_1 ≤ 1) = true := decide_eq_true c40
            clear c40
            obtain ⟨y388, hy388⟩ : ∃ y_ : List Int, y_ = (x5_1.set (x7_1 : Int).toNat (ad64 (rd x5_1 x7_1) (rd l1 x7_1) x6_1)) := ⟨_, rfl⟩
            replace H : (limb_Add.l0 kj12 l1 y388 (ac64 (rd x5_1 x7_1) (rd l1 x7_1) x6_1) (wrap64 (x7_1 + 1))) = some r := by first | (rw [hy388]; with_reducible exact H) | (have H2_ := (Option.bind_some _ _).symm.trans H; rw [hy388]; with_reducible exact H2_) | (have H2_ := (Option.bind_some _ _).symm.trans H; with_reducible exact H2_) | with_reducible exact H | (rw [hy388]; exact H) | exact H
            have Ny388 := Aside0.mk hy388
            clear hy388
            have H' := Aside0.mk H
            clear H
            obtain ⟨Ao42, co42, eo42⟩ := Kd.R_slice HO_5.out
            subst eo42
            have p386 : 0 ≤ (x7_1 : Int) := of_decide_eq_true am_
            have q386 : x7_1 < (l1.length : Int) := of_decide_eq_true am_
            obtain ⟨ad386, e386, hx386_0⟩ := Kd.at_int HR1.out x7_1 p386 q386
            cases e386
            replace hx386_0 := (HB.out.cell (World.block_lt_of_cell? w _ hx386_0)).trans hx386_0
            replace p386 := eq_true p386
            replace q386 := eq_true q386
            have p387 : 0 ≤ (x7_1 : Int) := of_decide_eq_true am_
            have q387 : x7_1 < (x5_1.length : Int) := of_decide_eq_true am_
            obtain ⟨ad387, e387, hx387_0⟩ := Kd.at_int (Kd.R_reads' HO_5.out).2.2 x7_1 p387 q387
            cases e387
            replace p387 := eq_true p387
            replace q387 := eq_true q387
            have p41 : 0 ≤ (x7_1 : Int) := of_decide_eq_true am_
            have q41 : (x7_1 : Int) < ((x5_1.length : Int) : Int) := of_decide_eq_true am_
            obtain ⟨go41, co41, eo41, gb41, gl41, cl41, HG41⟩ := Kd.R_form HO_5.out (by omega)
            (first | cases eo41 | (injection eo41 with ea_ en_ ec_; (first | subst ea_ | (injection ea_ with ea_; subst ea_)); subst ec_; clear en_))
            have GB41 := Aside0.mk gb41
            have GG41 := Aside0.mk HG41
            clear gb41 gl41 HG41
            (first | simp only [add_plain] at hx387_0 | skip)
            obtain ⟨hx41_0, hf41_0⟩ := Kd.R_celln 0 HO_5.out (x7_1 : Int) p41 q41
            replace p41 := eq_true p41
            replace q41 := eq_true q41
            have HP43 := Kd.R_putg HO_5.out (x7_1 : Int) (ad64 (rd x5_1 x7_1) (rd l1 x7_1) x6_1)
            go_wp2_with (first | ((with_reducible refine gate_store (t := 22) (p := 54) rfl ?_); refine store_event (t := 22) (p := 54) (v := ?vo_w44) (w1 := (wc.setCell ⟨go41, (x7_1 : Int).toNat, none⟩ (.int .u64 (ad64 (rd x5_1 x7_1) (rd l1 x7_1) x6_1)))) ?hg ?ho ?hn ?hr ?_; (case ho => rfl); (case hg => rfl); (case hn => rfl); (case hr => exact gs_); intro w44 hw; have hg : wc.grownBy w44 (some go41) := (by rw [hw]; exact HP43.2); have hp_ : Kd.R (Kd.int .u64) 22 w44 w.heap.size (fun k_ => (w.heap.size ≤ k_)) (.slice (some ⟨go41, 0, none⟩) x5_1.length co42) y388 := (by rw [hw, Ny388.out]; exact HP43.1); clear HP43; have n0_ := Aside0.mk (hp_); have n1_ := Aside0.mk ((by rw [hw]; exact below_set (HB.out) GB41.out : Below w.heap.size w w44)); clear HO_5; clear HB; have HO_5 := n0_; have HB := n1_; clear n0_ n1_; clear hg hw hp_))
            go_roundg kj12
            case measure => have := HK1.out; have := HJ12.out; omega
            case rel => exact ⟨(y388), (ac64 (rd x5_1 x7_1) (rd l1 x7_1) x6_1), (wrap64 (x7_1 + 1)), sd_, sd_, H', ⟨by have := HK1.out; have := HJ12.out; omega⟩, ⟨by (with_reducible repeat (first | apply Kd.R_alloc | apply Kd.R_drewN | apply Kd.R_drew)); exact HO_5.out⟩, ⟨by repeat (first | (with_reducible first | exact HB.out | apply below_alloc | apply pw_below_drewN | apply below_drew1) | exact HB.out)⟩⟩
           ·
            rw [if_neg c40] at H
            exact absurd H (by simp)
          ·
           rw [if_neg c39] at H
           exact absurd H (by simp)
         ·
          rw [if_neg c38] at H
          exact absurd H (by simp)
        ·
         rw [if_neg c37] at H
         have c37b0 : decide (x7_1 < (l1.length : Int)) = false := decide_eq_false c37
         clear c37
         by_cases c45 : 0 ≤ x7_1
         ·
          rw [if_pos c45] at H
          have c45b0 : decide (0 ≤ x7_1) = true := decide_eq_true c45
          clear c45
          by_cases c46 : x7_1 < (x5_1.length : Int)
          ·
           rw [if_pos c46] at H
           have c46b0 : decide (x7_1 < (x5_1.length : Int)) = true := decide_eq_true c46
           clear c46
           by_cases c47 : x6_1 ≤ 1
           ·
            rw [if_pos c47] at H
            have c47b0 : decide (x6_1 ≤ 1) = true := decide_eq_true c47
            clear c47
            obtain ⟨y390, hy390⟩ : ∃ y_ : List Int, y_ = (x5_1.set (x7_1 : Int).toNat (ad64 (rd x5_1 x7_1) 0 x6_1)) := ⟨_, rfl⟩
            replace H : (limb_Add.l0 kj12 l1 y390 (ac64 (rd x5_1 x7_1) 0 x6_1) (wrap64 (x7_1 + 1))) = some r := by first | (rw [hy390]; with_reducible exact H) | (have H2_ := (Option.bind_some _ _).symm.trans H; rw [hy390]; with_reducible exact H2_) | (have H2_ := (Option.bind_some _ _).symm.trans H; with_reducible exact H2_) | with_reducible exact H | (rw [hy390]; exact H) | exact H
            have Ny390 := Aside0.mk hy390
            clear hy390
            have H' := Aside0.mk H
            clear H
            obtain ⟨Ao49, co49, eo49⟩ := Kd.R_slice HO_5.out
            subst eo49
            have p389 : 0 ≤ (x7_1 : Int) := of_decide_eq_true am_
            have q389 : x7_1 < (x5_1.length : Int) := of_decide_eq_true am_
            obtain ⟨ad389, e389, hx389_0⟩ := Kd.at_int (Kd.R_reads' HO_5.out).2.2 x7_1 p389 q389
            cases e389
            replace p389 := eq_true p389
            replace q389 := eq_true q389
            have p48 : 0 ≤ (x7_1 : Int) := of_decide_eq_true am_
            have q48 : (x7_1 : Int) < ((x5_1.length : Int) : Int) := of_decide_eq_true am_
            obtain ⟨go48, co48, eo48, gb48, gl48, cl48, HG48⟩ := Kd.R_form HO_5.out (by omega)
            (first | cases eo48 | (injection eo48 with ea_ en_ ec_; (first | subst ea_ | (injection ea_ with ea_; subst ea_)); subst ec_; clear en_))
            have GB48 := Aside0.mk gb48
            have GG48 := Aside0.mk HG48
            clear gb48 gl48 HG48
            (first | simp only [add_plain] at hx389_0 | skip)
            obtain ⟨hx48_0, hf48_0⟩ := Kd.R_celln 0 HO_5.out (x7_1 : Int) p48 q48
            replace p48 := eq_true p48
            replace q48 := eq_true q48
            have HP50 := Kd.R_putg HO_5.out (x7_1 : Int) (ad64 (rd x5_1 x7_1) 0 x6_1)
            go_wp2_with (first | ((with_reducible refine gate_store (t := 22) (p := 54) rfl ?_); refine store_event (t := 22) (p := 54) (v := ?vo_w51) (w1 := (wc.setCell ⟨go48, (x7_1 : Int).toNat, none⟩ (.int .u64 (ad64 (rd x5_1 x7_1) 0 x6_1)))) ?hg ?ho ?hn ?hr ?_; (case ho => rfl); (case hg => rfl); (case hn => rfl); (case hr => exact gs_); intro w51 hw; have hg : wc.grownBy w51 (some go48) := (by rw [hw]; exact HP50.2); have hp_ : Kd.R (Kd.int .u64) 22 w51 w.heap.size (fun k_ => (w.heap.size ≤ k_)) (.slice (some ⟨go48, 0, none⟩) x5_1.length co49) y390 := (by rw [hw, Ny390.out]; exact HP50.1); clear HP50; have n0_ := Aside0.mk (hp_); have n1_ := Aside0.mk ((by rw [hw]; exact below_set (HB.out) GB48.out : Below w.heap.size w w51)); clear HO_5; clear HB; have HO_5 := n0_; have HB := n1_; clear n0_ n1_; clear hg hw hp_))
            go_roundg kj12
            case measure => have := HK1.out; have := HJ12.out; omega
            case rel => exact ⟨(y390), (ac64 (rd x5_1 x7_1) 0 x6_1), (wrap64 (x7_1 + 1)), sd_, sd_, H', ⟨by have := HK1.out; have := HJ12.out; omega⟩, ⟨by (with_reducible repeat (first | apply Kd.R_alloc | apply Kd.R_drewN | apply Kd.R_drew)); exact HO_5.out⟩, ⟨by repeat (first | (with_reducible first | exact HB.out | apply below_alloc | apply pw_below_drewN | apply below_drew1) | exact HB.out)⟩⟩
           ·
            rw [if_neg c47] at H
            exact absurd H (by simp)
          ·
           rw [if_neg c46] at H
           exact absurd H (by simp)
         ·
          rw [if_neg c45] at H
          exact absurd H (by simp)
      ·
       replace c15 := Bool.eq_false_iff.mpr c15
       subst c15
       have H1 : ((limb_trim.f kj12 x5_1).bind fun t375 => (some t375)) = some r := by rw [if_neg (show ¬ (false = true) by decide)] at H; exact H
       clear H
       have H := H1
       clear H1
       replace H := Option.bind_eq_some_iff.mp H
       obtain ⟨t375, A520, H⟩ := H
       replace H : (some t375) = some r := H
       have A52 := Aside0.mk A520
       clear A520
       obtain rfl := Option.some.inj H
       obtain ⟨Ao53, co53, eo53⟩ := Kd.R_slice HO_5.out
       subst eo53
       go_wp2_with (first | ((with_reducible refine gate_callee (f := 110) rfl ?_); refine goesL_ (some 56) rfl rfl Try.func110 (by kernel_rfl) rfl #[.slice Ao53 x5_1.length co53] rfl mt_ ?_; (with_reducible refine (limb_trim.calls kj12 (fun k_ => some k_ = (.slice Ao53 x5_1.length co53 : Value).ownBlock) _ _ x5_1 t375 _ ?side1 A52.out).mono ?_); (case side1 => exact Kd.R_V (Kd.R_tight rfl (HO_5.out))); rintro e w54 ⟨v376, rfl, ho0, hb⟩; refine ⟨_, rfl, ?_⟩; have n0_ := Aside0.mk (Kd.R_below (rR_ HO_5) hb); have n1_ := Aside0.mk (Kd.V_lower (Kd.V_mono (ok' := fun k_ => (P0_ k_ ∨ w.heap.size ≤ k_)) ho0 (fun k_ hk_ => Or.elim hk_ (fun hs_ => (.inr (((HO_5.out).1 k_ hs_.symm)))) (fun hn_ => (.inr (Nat.le_trans (below_size (bb_ HB)) hn_))))) (below_size (bb_ HB))); have n2_ := Aside0.mk (below_step (bb_ HB) hb); clear HO_5; clear HB; have HO_5 := n0_; have HO377 := n1_; have HB := n2_; clear n0_ n1_ n2_; (try clear hb); (try clear hb2); (try clear hk); (try clear hi); (try clear ho0)))
       go_ret
       exact ⟨_, by first | rfl | (simp [errW_none, errW_some] <;> rfl) | (simp [*, errW_none, errW_some] <;> rfl), by (with_reducible repeat (first | apply Kd.V_alloc | apply Kd.V_drewN | apply Kd.V_drew)); exact HO377.out, by repeat (first | (with_reducible first | exact HB.out | apply below_alloc | apply pw_below_drewN | apply below_drew1) | exact HB.out)⟩

/-! ### ratio_plus: function 87 -/
def ratio_plus.f (k : Nat) (a0 : Bool) (l1 : List Int) (a2 : Bool) (l3 : List Int) : Option (Bool × List Int) := if (a0 == a2) = true then ((limb_Add.f k l1 l3).bind fun t391 => (some (a0, t391))) else ((limb_Cmp.f k l1 l3).bind fun t394 => (if t394 < 0 then ((limb_Sub.f k l3 l1).bind fun bt395 => (some (a2, bt395.1))) else ((limb_Sub.f k l1 l3).bind fun bt399 => (some (a0, bt399.1)))))
theorem ratio_plus.mono : ∀ a0 a1 a2 a3 k, LeO (ratio_plus.f k a0 a1 a2 a3) (ratio_plus.f (k + 1) a0 a1 a2 a3) := by
 intro a0 a1 a2 a3 k
 unfold ratio_plus.f
 repeat' first
   | (with_reducible exact limb_Add.mono _ _ _)
   | (with_reducible exact limb_Cmp.mono _ _ _)
   | (with_reducible exact limb_Sub.mono _ _ _)
   | (with_reducible exact LeO.refl _)
   | (with_reducible exact LeO.none _)
   | (with_reducible refine LeO.ite ?_ ?_)
   | (with_reducible refine LeO.bind ?_ (fun _ => ?_))
set_option maxHeartbeats 8000000 in
set_option maxRecDepth 100000 in
theorem ratio_plus.calls (k : Nat) (a0 : Bool) (P1_ : Nat → Prop) (A1 : Option Addr) (c1 : Nat) (l1 : List Int) (a2 : Bool) (A3 : Option Addr) (c3 : Nat) (l3 : List Int) (r1 : Bool) (r2 : List Int) (w : World) (hs1 : Kd.V (Kd.int .u64) 22 w w.heap.size (fun k_ => P1_ k_) (.slice A1 l1.length c1) l1) (hr3 : Kd.C (Kd.int .u64) w A3 l3.length l3) (hc3 : l3.length ≤ c3) (h : ratio_plus.f k a0 l1 a2 l3 = some (r1, r2)) :
  Calls Try.prog 87 #[.bool a0, .slice A1 l1.length c1, .bool a2, .slice A3 l3.length c3] w fun e w' => ∃ v1_ : Value, e = .returned (.tuple #[.bool r1, v1_]) ∧ Kd.V (Kd.int .u64) 22 w' w.heap.size (fun k_ => (P1_ k_ ∨ w.heap.size ≤ k_)) v1_ r2 ∧ Below w.heap.size w w' := by
 have HO1 := Aside0.mk (show Kd.V (Kd.int .u64) 22 w w.heap.size (fun k_ => (P1_ k_ ∨ w.heap.size ≤ k_)) (.slice A1 l1.length c1) l1 from Kd.V_mono hs1 (fun k_ hk => .inl hk))
 have HR3 := Aside0.mk hr3
 have HC3 := Aside0.mk hc3
 clear hr3 hc3
 have HB := Aside0.mk (Below.refl w.heap.size w)
 have H : (if (a0 == a2) = true then ((limb_Add.f k l1 l3).bind fun t391 => (some (a0, t391))) else ((limb_Cmp.f k l1 l3).bind fun t394 => (if t394 < 0 then ((limb_Sub.f k l3 l1).bind fun bt395 => (some (a2, bt395.1))) else ((limb_Sub.f k l1 l3).bind fun bt399 => (some (a0, bt399.1)))))) = some (r1, r2) := h
 clear h
 by_cases c5 : (a0 == a2) = true
 ·
  rw [if_pos c5] at H
  have c5b0 : (a0 == a2) = true := c5
  (try (have c5b1 : decide (a0 = a2) = true := by simpa using c5))
  (try (have c5b2 : (a0 == a2) = true := by simpa using c5))
  clear c5
  replace H := Option.bind_eq_some_iff.mp H
  obtain ⟨t391, A60, H⟩ := H
  replace H : (some (a0, t391)) = some (r1, r2) := H
  have A6 := Aside0.mk A60
  clear A60
  simp only [Option.some.injEq, Prod.mk.injEq] at H
  obtain ⟨rfl, rfl⟩ := H
  go_enter Try.func87, Try.ntmps87
  go_wp2_with (first | ((with_reducible refine gate_callee (f := 108) rfl ?_); refine goesL_ (some 19) rfl rfl Try.func108 (by kernel_rfl) rfl #[.slice A1 l1.length c1, .slice A3 l3.length c3] rfl mt_ ?_; (with_reducible refine (limb_Add.calls k (fun k_ => (P1_ k_ ∨ w.heap.size ≤ k_)) _ _ l1 _ _ l3 t391 _ ?side1 ?side2 ?side3 A6.out).mono ?_); (case side1 => exact HO1.out); (case side2 => exact cc_ HR3.out); (case side3 => exact HC3.out); rintro e w7 ⟨v392, rfl, ho0, hb⟩; refine ⟨_, rfl, ?_⟩; have n0_ := Aside0.mk (Kd.V_below (rV_ HO1) hb); have n1_ := Aside0.mk (Kd.V_lower (Kd.V_mono (ok' := fun k_ => (P1_ k_ ∨ w.heap.size ≤ k_)) ho0 (fun k_ hk_ => Or.elim hk_ (fun hs_ => hs_) (fun hn_ => (.inr (Nat.le_trans (below_size (bb_ HB)) hn_))))) (below_size (bb_ HB))); have n2_ := Aside0.mk (below_step (bb_ HB) hb); clear HO1; clear HB; have HO1 := n0_; have HO393 := n1_; have HB := n2_; clear n0_ n1_ n2_; (try clear hb); (try clear hb2); (try clear hk); (try clear hi); (try clear ho0)))
  go_ret2
  exact ⟨_, by first | rfl | (simp [errW_none, errW_some] <;> rfl) | (simp [*, errW_none, errW_some] <;> rfl), by (with_reducible repeat (first | apply Kd.V_alloc | apply Kd.V_drewN | apply Kd.V_drew)); exact HO393.out, by repeat (first | (with_reducible first | exact HB.out | apply below_alloc | apply pw_below_drewN | apply below_drew1) | exact HB.out)⟩
 ·
  rw [if_neg c5] at H
  have c5b0 : (a0 == a2) = false := by simpa using c5
  (try (have c5b1 : decide (a0 = a2) = false := by simpa using c5))
  (try (have c5b2 : (a0 == a2) = false := by simpa using c5))
  (try (have c5b3 : ¬ (a0 = a2) := by simpa using c5))
  clear c5
  replace H := Option.bind_eq_some_iff.mp H
  obtain ⟨t394, A80, H⟩ := H
  replace H : (if t394 < 0 then ((limb_Sub.f k l3 l1).bind fun bt395 => (some (a2, bt395.1))) else ((limb_Sub.f k l1 l3).bind fun bt399 => (some (a0, bt399.1)))) = some (r1, r2) := H
  have A8 := Aside0.mk A80
  clear A80
  by_cases c9 : t394 < 0
  ·
   rw [if_pos c9] at H
   have c9b0 : decide (t394 < 0) = true := decide_eq_true c9
   clear c9
   replace H := Option.bind_eq_some_iff.mp H
   obtain ⟨⟨t395, t396⟩, A100, H⟩ := H
   replace H : (some (a2, t395)) = some (r1, r2) := H
   have A10 := Aside0.mk A100
   clear A100
   simp only [Option.some.injEq, Prod.mk.injEq] at H
   obtain ⟨rfl, rfl⟩ := H
   go_enter Try.func87, Try.ntmps87
   go_wp2_with (first | ((with_reducible refine gate_callee (f := 98) rfl ?_); refine goesL_ (some 23) rfl rfl Try.func98 (by kernel_rfl) rfl #[.slice A1 l1.length c1, .slice A3 l3.length c3] rfl mt_ ?_; (with_reducible refine (limb_Cmp.calls k _ _ l1 _ _ l3 t394 _ ?side1 ?side2 ?side3 ?side4 A8.out).mono ?_); (case side1 => repeat (first | exact (Kd.V_reads' HO1.out).2.2 | (with_reducible refine Kd.C_alloc ?_ _) | (with_reducible refine Kd.C_drewN ?_ _) | (with_reducible refine Kd.C_drew ?_))); (case side2 => exact (Kd.V_reads' HO1.out).2.1); (case side3 => exact cc_ HR3.out); (case side4 => exact HC3.out); rintro e w11 ⟨rfl, hb⟩; refine ⟨_, rfl, ?_⟩; have n0_ := Aside0.mk (Kd.V_below (rV_ HO1) hb); have n1_ := Aside0.mk (below_step (bb_ HB) hb); clear HO1; clear HB; have HO1 := n0_; have HB := n1_; clear n0_ n1_; (try clear hb); (try clear hb2); (try clear hk); (try clear hi)) | ((with_reducible refine gate_callee (f := 109) rfl ?_); refine goesL_ (some 31) rfl rfl Try.func109 (by kernel_rfl) rfl #[.slice A3 l3.length c3, .slice A1 l1.length c1] rfl mt_ ?_; (with_reducible refine (limb_Sub.calls k _ _ l3 _ _ l1 t395 t396 _ ?side1 ?side2 ?side3 ?side4 A10.out).mono ?_); (case side1 => exact cc_ (Kd.C_below HR3.out HB.out)); (case side2 => exact HC3.out); (case side3 => repeat (first | exact (Kd.V_reads' HO1.out).2.2 | (with_reducible refine Kd.C_alloc ?_ _) | (with_reducible refine Kd.C_drewN ?_ _) | (with_reducible refine Kd.C_drew ?_))); (case side4 => exact (Kd.V_reads' HO1.out).2.1); rintro e w12 ⟨v397, rfl, ho0, hb⟩; refine ⟨_, rfl, ?_⟩; have n0_ := Aside0.mk (Kd.V_elder' (rV_ HO1) (Kd.R_base ho0) hb); have n1_ := Aside0.mk (Kd.R_lower (Kd.R_newM (M := fun k_ => (w.heap.size ≤ k_)) ho0 (below_size (bb_ HB)) (fun k_ h_ => h_)) (below_size (bb_ HB))); have n2_ := Aside0.mk (below_step (bb_ HB) hb); clear HO1; clear HB; have HO1 := n0_; have HO398 := n1_; have HB := n2_; clear n0_ n1_ n2_; (try clear hb); (try clear hb2); (try clear hk); (try clear hi); (try clear ho0)))
   go_ret2
   exact ⟨_, by first | rfl | (simp [errW_none, errW_some] <;> rfl) | (simp [*, errW_none, errW_some] <;> rfl), Kd.V_mono (Kd.R_V (by (with_reducible repeat (first | apply Kd.R_alloc | apply Kd.R_drewN | apply Kd.R_drew)); exact Kd.R_mono HO398.out (fun _ hk => hk.1))) (fun k_ hk => by first | exact ⟨(.inr (hk.1)), hk.2⟩ | exact (.inr (hk))), by repeat (first | (with_reducible first | exact HB.out | apply below_alloc | apply pw_below_drewN | apply below_drew1) | exact HB.out)⟩
  ·
   rw [if_neg c9] at H
   have c9b0 : decide (t394 < 0) = false := decide_eq_false c9
   clear c9
   replace H := Option.bind_eq_some_iff.mp H
   obtain ⟨⟨t399, t400⟩, A130, H⟩ := H
   replace H : (some (a0, t399)) = some (r1, r2) := H
   have A13 := Aside0.mk A130
   clear A130
   simp only [Option.some.injEq, Prod.mk.injEq] at H
   obtain ⟨rfl, rfl⟩ := H
   go_enter Try.func87, Try.ntmps87
   go_wp2_with (first | ((with_reducible refine gate_callee (f := 98) rfl ?_); refine goesL_ (some 23) rfl rfl Try.func98 (by kernel_rfl) rfl #[.slice A1 l1.length c1, .slice A3 l3.length c3] rfl mt_ ?_; (with_reducible refine (limb_Cmp.calls k _ _ l1 _ _ l3 t394 _ ?side1 ?side2 ?side3 ?side4 A8.out).mono ?_); (case side1 => repeat (first | exact (Kd.V_reads' HO1.out).2.2 | (with_reducible refine Kd.C_alloc ?_ _) | (with_reducible refine Kd.C_drewN ?_ _) | (with_reducible refine Kd.C_drew ?_))); (case side2 => exact (Kd.V_reads' HO1.out).2.1); (case side3 => exact cc_ HR3.out); (case side4 => exact HC3.out); rintro e w14 ⟨rfl, hb⟩; refine ⟨_, rfl, ?_⟩; have n0_ := Aside0.mk (Kd.V_below (rV_ HO1) hb); have n1_ := Aside0.mk (below_step (bb_ HB) hb); clear HO1; clear HB; have HO1 := n0_; have HB := n1_; clear n0_ n1_; (try clear hb); (try clear hb2); (try clear hk); (try clear hi)) | ((with_reducible refine gate_callee (f := 109) rfl ?_); refine goesL_ (some 31) rfl rfl Try.func109 (by kernel_rfl) rfl #[.slice A1 l1.length c1, .slice A3 l3.length c3] rfl mt_ ?_; (with_reducible refine (limb_Sub.calls k _ _ l1 _ _ l3 t399 t400 _ ?side1 ?side2 ?side3 ?side4 A13.out).mono ?_); (case side1 => repeat (first | exact (Kd.V_reads' HO1.out).2.2 | (with_reducible refine Kd.C_alloc ?_ _) | (with_reducible refine Kd.C_drewN ?_ _) | (with_reducible refine Kd.C_drew ?_))); (case side2 => exact (Kd.V_reads' HO1.out).2.1); (case side3 => exact cc_ (Kd.C_below HR3.out HB.out)); (case side4 => exact HC3.out); rintro e w15 ⟨v401, rfl, ho0, hb⟩; refine ⟨_, rfl, ?_⟩; have n0_ := Aside0.mk (Kd.V_elder' (rV_ HO1) (Kd.R_base ho0) hb); have n1_ := Aside0.mk (Kd.R_lower (Kd.R_newM (M := fun k_ => (w.heap.size ≤ k_)) ho0 (below_size (bb_ HB)) (fun k_ h_ => h_)) (below_size (bb_ HB))); have n2_ := Aside0.mk (below_step (bb_ HB) hb); clear HO1; clear HB; have HO1 := n0_; have HO402 := n1_; have HB := n2_; clear n0_ n1_ n2_; (try clear hb); (try clear hb2); (try clear hk); (try clear hi); (try clear ho0)))
   go_ret2
   exact ⟨_, by first | rfl | (simp [errW_none, errW_some] <;> rfl) | (simp [*, errW_none, errW_some] <;> rfl), Kd.V_mono (Kd.R_V (by (with_reducible repeat (first | apply Kd.R_alloc | apply Kd.R_drewN | apply Kd.R_drew)); exact Kd.R_mono HO402.out (fun _ hk => hk.1))) (fun k_ hk => by first | exact ⟨(.inr (hk.1)), hk.2⟩ | exact (.inr (hk))), by repeat (first | (with_reducible first | exact HB.out | apply below_alloc | apply pw_below_drewN | apply below_drew1) | exact HB.out)⟩

-- NOT PRINTED: function 123 (slices_IndexFunc_uint64_uint64)

-- NOT PRINTED: function 114 (slices_ContainsFunc_uint64_uint64)

-- NOT PRINTED: function 115 (ratio_big_1)

/-! ### ratio_big: function 89 -/

def ratio_big.idx : List (List Int) → Int → Int
 | [], _ => -1
 | x :: r, i => if 8 < x.length then i else ratio_big.idx r (i + 1)
def ratio_big.any (l0 : List (List Int)) : Bool := decide (0 ≤ ratio_big.idx l0 0)
def ratio_big.f (l0 : List (List Int)) : Option Bool := some (ratio_big.any l0)
set_option maxHeartbeats 4000000 in
theorem ratio_big.one (A0 : Option Addr) (c0 n : Nat) (b : Bool) (w : World) (hb : decide (8 < (n : Int)) = b) (hm : (n : Int) ≤ 9223372036854775807) :
  Calls Try.prog 115 #[.slice A0 n c0] w fun e w' => e = .returned (.bool b) ∧ w = w' := by
 have hb2 : decide (8 < n) = b := by rw [← hb]; exact decide_eq_decide.2 (by omega)
 cases b <;>
 ·
  go_enter Try.func115, Try.ntmps115
  go_wp2
  go_ret
  exact ⟨rfl, rfl⟩
set_option maxHeartbeats 8000000 in
set_option maxRecDepth 100000 in
theorem ratio_big.index (A0 : Option Addr) (c0 : Nat) (l0 : List (List Int)) (w : World) (hr0 : Kd.C (Kd.slice 22 (Kd.int .u64)) w A0 l0.length l0) :
  Calls Try.prog 123 #[.slice A0 l0.length c0, .func (.func 115) #[] #[]] w fun e w' => e = .returned (.int .i64 (ratio_big.idx l0 0)) ∧ w = w' := by
 have HR0 := Aside0.mk hr0
 have hmx : (l0.length : Int) ≤ 9223372036854775807 := by have := hr0.2.1; omega
 clear hr0
 go_enter Try.func123, Try.ntmps123
 go_wp2_with fail
 go_loopg [8] l0.length (fun kq v8 wr => ∃ i : Nat, v8 = .int .i64 i ∧ Aside0 (i + kq = l0.length) ∧ Aside0 (ratio_big.idx (l0.drop i) i = ratio_big.idx l0 0) ∧ w = wr)
 case atStart => exact ⟨0, rfl, ⟨by omega⟩, ⟨rfl⟩, rfl⟩
 case round =>
  obtain ⟨i, rfl, HI, HX, rfl⟩ := hrel
  cases gk with
  | zero =>
   obtain rfl : i = l0.length := by have := HI.out; omega
   have hx := HX.out
   rw [List.drop_length, ratio_big.idx] at hx
   have HX2 := Aside0.mk hx
   clear HX hx
   go_wp2
   go_ret
   exact ⟨by rw [← HX2.out]; rfl, rfl⟩
  | succ d =>
   have hil : i < l0.length := by have := HI.out; omega
   obtain ⟨ad, cs, e1, hcl, hK, hcs⟩ := Kd.C_get HR0.out [] (i : Int) (by omega) (by omega)
   cases e1
   obtain ⟨Ar, cr, ecs, hrl, hC⟩ := hK
   subst ecs
   rw [Int.toNat_natCast] at hrl hC hcs
   obtain ⟨row, hrow⟩ : ∃ row, l0.getD i [] = row := ⟨_, rfl⟩
   rw [hrow] at hrl hC hcs
   have hcell := hcs 0 _ rfl
   rw [show i * (Kd.slice 22 (Kd.int .u64)).sz + 0 = i from by show i * 1 + 0 = i; omega] at hcell
   have hx := HX.out
   rw [List.drop_eq_getElem_cons hil] at hx
   have hrow2 : l0[i] = row := by rw [← hrow, List.getD_eq_getElem?_getD, List.getElem?_eq_getElem hil]; rfl
   rw [hrow2, ratio_big.idx] at hx
   have hmr : (row.length : Int) ≤ 9223372036854775807 := by have := hC.2.1; omega
   have hil' : (i : Int) < (l0.length : Int) := by omega
   clear hrow hrow2 hcs hcl hC hrl HX
   by_cases hb : 8 < row.length
   ·
    rw [if_pos hb] at hx
    have HX2 := Aside0.mk hx
    have HBT := Aside0.mk (show decide (8 < (row.length : Int)) = true from decide_eq_true (by omega))
    clear hx hb
    go_wp2_with fail
    refine (ratio_big.one Ar cr row.length true _ HBT.out hmr).mono ?_
    rintro e w1 ⟨rfl, rfl⟩
    go_wp2
    go_ret
    exact ⟨by rw [← HX2.out]; rfl, rfl⟩
   ·
    rw [if_neg hb] at hx
    have HX2 := Aside0.mk hx
    have HBT := Aside0.mk (show decide (8 < (row.length : Int)) = false from decide_eq_false (by omega))
    clear hx hb
    go_wp2_with fail
    refine (ratio_big.one Ar cr row.length false _ HBT.out hmr).mono ?_
    rintro e w1 ⟨rfl, rfl⟩
    go_wp2
    go_roundg d
    case measure => omega
    case rel => exact ⟨i + 1, by go_num, ⟨by have := HI.out; omega⟩, ⟨by have := HX2.out; rw [← this]; congr 1⟩, rfl⟩
set_option maxHeartbeats 8000000 in
theorem ratio_big.calls (A0 : Option Addr) (c0 : Nat) (l0 : List (List Int)) (r : Bool) (w : World) (hr0 : Kd.C (Kd.slice 22 (Kd.int .u64)) w A0 l0.length l0) (hc0 : l0.length ≤ c0) (h : ratio_big.f l0 = some r) :
  Calls Try.prog 89 #[.slice A0 l0.length c0] w fun e w' => e = .returned (.bool r) ∧ Drawn0 w w' := by
 obtain rfl := Option.some.inj h
 have HR0 := Aside0.mk hr0
 clear hr0 hc0 h
 have HC : Aside0 (Calls Try.prog 114 #[.slice A0 l0.length c0, .func (.func 115) #[] #[]] w fun e w' => e = .returned (.bool (ratio_big.any l0)) ∧ w = w') := by
  refine ⟨?_⟩
  unfold ratio_big.any
  have HI := Aside0.mk (ratio_big.index A0 c0 l0 w HR0.out)
  generalize ratio_big.idx l0 0 = j at HI
  cases hj : decide (0 ≤ j) with
  | true =>
   go_enter Try.func114, Try.ntmps114
   go_wp2_with fail
   refine HI.out.mono ?_
   rintro e w1 ⟨rfl, rfl⟩
   go_wp2
   go_ret
   exact ⟨rfl, rfl⟩
  | false =>
   go_enter Try.func114, Try.ntmps114
   go_wp2_with fail
   refine HI.out.mono ?_
   rintro e w1 ⟨rfl, rfl⟩
   go_wp2
   go_ret
   exact ⟨rfl, rfl⟩
 generalize ratio_big.any l0 = b at HC
 go_enter Try.func89, Try.ntmps89
 go_wp2_with fail
 refine HC.out.mono ?_
 rintro e w1 ⟨rfl, rfl⟩
 go_wp2
 go_ret
 exact ⟨rfl, Drawn0.refl _⟩

/-! ### ratio_Add: function 49 -/
def ratio_Add.j0 : Nat → Bool → Bool → List Int → List Int → Bool → List Int → List Int → Option (Bool × List Int × List Int × Int)
 | 0, _, _, _, _, _, _, _ => none
 | k + 1, x18, x404000, x404001, x404002, x405000, x405001, x405002 => if x18 = true then (some (false, ([] : List Int), ([] : List Int), 1)) else ((ratio_crossed.f k x404000 x404001 x404002 x405000 x405001 x405002).bind fun bt408 => ((ratio_plus.f k x404000 bt408.1 x405000 bt408.2).bind fun bt414 => ((limb_Mul.f k x404002 x405002).bind fun t418 => ((ratio_big.f (([bt408.1, bt408.2, bt414.2, t418] : List (List Int)))).bind fun t424 => (if t424 = true then (some (false, ([] : List Int), ([] : List Int), 21)) else ((ratio_Make.f k bt414.1 bt414.2 t418).bind fun bt425 => (some (bt425.1, bt425.2.1, bt425.2.2.1, bt425.2.2.2))))))))
def ratio_Add.f (k : Nat) (a0_0 : Bool) (l0_1 : List Int) (l0_2 : List Int) (a1_0 : Bool) (l1_1 : List Int) (l1_2 : List Int) : Option (Bool × List Int × List Int × Int) := (ratio_May.f k a0_0 l0_1 l0_2).bind fun t406 => (if t406 = true then ((ratio_May.f k a1_0 l1_1 l1_2).bind fun t407 => (ratio_Add.j0 k (!t407) a0_0 l0_1 l0_2 a1_0 l1_1 l1_2)) else (ratio_Add.j0 k true a0_0 l0_1 l0_2 a1_0 l1_1 l1_2))
theorem ratio_Add.mono_l : ∀ k, (∀ y0 y1 y2 y3 y4 y5 y6, LeO (ratio_Add.j0 k y0 y1 y2 y3 y4 y5 y6) (ratio_Add.j0 (k + 1) y0 y1 y2 y3 y4 y5 y6))
 | 0 => fun _ _ _ _ _ _ _ r h => by simp [ratio_Add.j0] at h
 | k + 1 => by
  have ih0 := ratio_Add.mono_l k
  ·
   intro y0 y1 y2 y3 y4 y5 y6
   unfold ratio_Add.j0
   repeat' first
   | (with_reducible exact ih0 _ _ _ _ _ _ _)
   | (with_reducible exact limb_Mul.mono _ _ _)
   | (with_reducible exact ratio_Make.mono _ _ _ _)
   | (with_reducible exact ratio_May.mono _ _ _ _)
   | (with_reducible exact ratio_crossed.mono _ _ _ _ _ _ _)
   | (with_reducible exact ratio_plus.mono _ _ _ _ _)
   | (with_reducible exact LeO.refl _)
   | (with_reducible exact LeO.none _)
   | (with_reducible refine LeO.ite ?_ ?_)
   | (with_reducible refine LeO.bind ?_ (fun _ => ?_))
theorem ratio_Add.mono : ∀ a0 a1 a2 a3 a4 a5 k, LeO (ratio_Add.f k a0 a1 a2 a3 a4 a5) (ratio_Add.f (k + 1) a0 a1 a2 a3 a4 a5) := by
 intro a0 a1 a2 a3 a4 a5 k
 have ih0 := ratio_Add.mono_l k
 unfold ratio_Add.f
 repeat' first
   | (with_reducible exact ih0 _ _ _ _ _ _ _)
   | (with_reducible exact limb_Mul.mono _ _ _)
   | (with_reducible exact ratio_Make.mono _ _ _ _)
   | (with_reducible exact ratio_May.mono _ _ _ _)
   | (with_reducible exact ratio_crossed.mono _ _ _ _ _ _ _)
   | (with_reducible exact ratio_plus.mono _ _ _ _ _)
   | (with_reducible exact LeO.refl _)
   | (with_reducible exact LeO.none _)
   | (with_reducible refine LeO.ite ?_ ?_)
   | (with_reducible refine LeO.bind ?_ (fun _ => ?_))
set_option maxHeartbeats 8000000 in
set_option maxRecDepth 100000 in
theorem ratio_Add.calls (k : Nat) (a0_0 : Bool) (A0_1 : Option Addr) (c0_1 : Nat) (l0_1 : List Int) (A0_2 : Option Addr) (c0_2 : Nat) (l0_2 : List Int) (a1_0 : Bool) (A1_1 : Option Addr) (c1_1 : Nat) (l1_1 : List Int) (A1_2 : Option Addr) (c1_2 : Nat) (l1_2 : List Int) (r1 : Bool) (r2 : List Int) (r3 : List Int) (r4 : Int) (w : World) (hr0_1 : Kd.C (Kd.int .u64) w A0_1 l0_1.length l0_1) (hc0_1 : l0_1.length ≤ c0_1) (hr0_2 : Kd.C (Kd.int .u64) w A0_2 l0_2.length l0_2) (hc0_2 : l0_2.length ≤ c0_2) (hr1_1 : Kd.C (Kd.int .u64) w A1_1 l1_1.length l1_1) (hc1_1 : l1_1.length ≤ c1_1) (hr1_2 : Kd.C (Kd.int .u64) w A1_2 l1_2.length l1_2) (hc1_2 : l1_2.length ≤ c1_2) (h : ratio_Add.f k a0_0 l0_1 l0_2 a1_0 l1_1 l1_2 = some (r1, r2, r3, r4)) :
  Calls Try.prog 49 #[.agg #[.bool a0_0, .slice A0_1 l0_1.length c0_1, .slice A0_2 l0_2.length c0_2], .agg #[.bool a1_0, .slice A1_1 l1_1.length c1_1, .slice A1_2 l1_2.length c1_2]] w fun e w' => ∃ v1_ v2_ : Value, e = .returned (.tuple #[.agg #[.bool r1, v1_, v2_], .int .i64 r4]) ∧ Kd.R (Kd.int .u64) 22 w' w.heap.size (fun k_ => some k_ ≠ (v2_ : Value).ownBlock) v1_ r2 ∧ Kd.R (Kd.int .u64) 22 w' w.heap.size (fun k_ => some k_ ≠ (v1_ : Value).ownBlock) v2_ r3 ∧ Below w.heap.size w w' := by
 have hu44 := Try.underlying44
 have HR0_1 := Aside0.mk hr0_1
 have HC0_1 := Aside0.mk hc0_1
 clear hr0_1 hc0_1
 have HR0_2 := Aside0.mk hr0_2
 have HC0_2 := Aside0.mk hc0_2
 clear hr0_2 hc0_2
 have HR1_1 := Aside0.mk hr1_1
 have HC1_1 := Aside0.mk hc1_1
 clear hr1_1 hc1_1
 have HR1_2 := Aside0.mk hr1_2
 have HC1_2 := Aside0.mk hc1_2
 clear hr1_2 hc1_2
 have HB := Aside0.mk (Below.refl w.heap.size w)
 have H : ((ratio_May.f k a0_0 l0_1 l0_2).bind fun t406 => (if t406 = true then ((ratio_May.f k a1_0 l1_1 l1_2).bind fun t407 => (ratio_Add.j0 k (!t407) a0_0 l0_1 l0_2 a1_0 l1_1 l1_2)) else (ratio_Add.j0 k true a0_0 l0_1 l0_2 a1_0 l1_1 l1_2))) = some (r1, r2, r3, r4) := h
 clear h
 have HC3 := Aside0.mk H
 clear H
 go_enter Try.func49, Try.ntmps49
 go_upto_region 1 with (first | ((with_reducible refine gate_dst (N := 2) rfl ?_); refine box_event ?hg (N := 2) ?hd (cs := #[.bool a0_0, .slice A0_1 l0_1.length c0_1, .slice A0_2 l0_2.length c0_2]) (t := 44) ?hr ?_; (case hd => rfl); (case hg => rfl); (case hr => exact gs_); intro gb403 hg w4 hbox hb; have n0_ := Aside0.mk (below_step (bb_ HB) hb); have n1_ := Aside0.mk (hbox); have n2_ := Aside0.mk ((by rw [hg]; exact (below_size (bb_ HB)) : w.heap.size ≤ gb403)); have n3_ := Aside0.mk ((by rw [hg]; exact (below_size (bb_ HB)) : w.heap.size ≤ gb403)); clear HB; have HB := n0_; have BK403 := n1_; have GW403 := n2_; have GE403 := n3_; clear n0_ n1_ n2_ n3_; clear hb hbox hg) | ((with_reducible refine gate_dst (N := 3) rfl ?_); refine box_event ?hg (N := 3) ?hd (cs := #[.bool a1_0, .slice A1_1 l1_1.length c1_1, .slice A1_2 l1_2.length c1_2]) (t := 44) ?hr ?_; (case hd => rfl); (case hg => rfl); (case hr => exact gs_); intro gb404 hg w5 hbox hb; have n0_ := Aside0.mk (blk_below (g := gb403) (o := .cells #[.bool a0_0, .slice A0_1 l0_1.length c0_1, .slice A0_2 l0_2.length c0_2] 44 (0, 0)) (kb_ BK403) hb); have n1_ := Aside0.mk (below_step (bb1_ HB GE403) hb); have n2_ := Aside0.mk (hbox); have n3_ := Aside0.mk ((by rw [hg]; exact (below_size (bb1_ HB GE403)) : w.heap.size ≤ gb404)); have n4_ := Aside0.mk ((by rw [hg]; exact (below_size (bb1_ HB GE403)) : w.heap.size ≤ gb404)); have n5_ := Aside0.mk ((by rw [hg]; exact Nat.ne_of_lt (blk_lt (g := gb403) (o := .cells #[.bool a0_0, .slice A0_1 l0_1.length c0_1, .slice A0_2 l0_2.length c0_2] 44 (0, 0)) (kb_ BK403)) : gb403 ≠ gb404)); have n6_ := Aside0.mk ((by rw [hg]; exact Nat.ne_of_gt (blk_lt (g := gb403) (o := .cells #[.bool a0_0, .slice A0_1 l0_1.length c0_1, .slice A0_2 l0_2.length c0_2] 44 (0, 0)) (kb_ BK403)) : gb404 ≠ gb403)); clear BK403; clear HB; have BK403 := n0_; have HB := n1_; have BK404 := n2_; have GW404 := n3_; have GE404 := n4_; have NB403_404 := n5_; have NB404_403 := n6_; clear n0_ n1_ n2_ n3_ n4_ n5_ n6_; clear hb hbox hg) | ((with_reducible refine gate_dst (N := 4) rfl ?_); refine box_event ?hg (N := 4) ?hd (cs := #[.bool false, .slice none 0 0, .slice none 0 0]) (t := 44) ?hr ?_; (case hd => rfl); (case hg => rfl); (case hr => exact gs_); intro gb405 hg w6 hbox hb; have n0_ := Aside0.mk (blk_below (g := gb403) (o := .cells #[.bool a0_0, .slice A0_1 l0_1.length c0_1, .slice A0_2 l0_2.length c0_2] 44 (0, 0)) (kb_ BK403) hb); have n1_ := Aside0.mk (blk_below (g := gb404) (o := .cells #[.bool a1_0, .slice A1_1 l1_1.length c1_1, .slice A1_2 l1_2.length c1_2] 44 (0, 0)) (kb_ BK404) hb); have n2_ := Aside0.mk (below_step (bb2_ HB GE403 GE404) hb); have n3_ := Aside0.mk (hbox); have n4_ := Aside0.mk ((by rw [hg]; exact (below_size (bb2_ HB GE403 GE404)) : w.heap.size ≤ gb405)); have n5_ := Aside0.mk ((by rw [hg]; exact (below_size (bb2_ HB GE403 GE404)) : w.heap.size ≤ gb405)); have n6_ := Aside0.mk ((by rw [hg]; exact Nat.ne_of_lt (blk_lt (g := gb403) (o := .cells #[.bool a0_0, .slice A0_1 l0_1.length c0_1, .slice A0_2 l0_2.length c0_2] 44 (0, 0)) (kb_ BK403)) : gb403 ≠ gb405)); have n7_ := Aside0.mk ((by rw [hg]; exact Nat.ne_of_gt (blk_lt (g := gb403) (o := .cells #[.bool a0_0, .slice A0_1 l0_1.length c0_1, .slice A0_2 l0_2.length c0_2] 44 (0, 0)) (kb_ BK403)) : gb405 ≠ gb403)); have n8_ := Aside0.mk ((by rw [hg]; exact Nat.ne_of_lt (blk_lt (g := gb404) (o := .cells #[.bool a1_0, .slice A1_1 l1_1.length c1_1, .slice A1_2 l1_2.length c1_2] 44 (0, 0)) (kb_ BK404)) : gb404 ≠ gb405)); have n9_ := Aside0.mk ((by rw [hg]; exact Nat.ne_of_gt (blk_lt (g := gb404) (o := .cells #[.bool a1_0, .slice A1_1 l1_1.length c1_1, .slice A1_2 l1_2.length c1_2] 44 (0, 0)) (kb_ BK404)) : gb405 ≠ gb404)); clear BK403; clear BK404; clear HB; have BK403 := n0_; have BK404 := n1_; have HB := n2_; have BK405 := n3_; have GW405 := n4_; have GE405 := n5_; have NB403_405 := n6_; have NB405_403 := n7_; have NB404_405 := n8_; have NB405_404 := n9_; clear n0_ n1_ n2_ n3_ n4_ n5_ n6_ n7_ n8_ n9_; clear hb hbox hg))
 (try simp only [Act.put, ss_])
 go_cut [18] (fun v18 wc => ∃ (kq : Nat) (x18_2 : Bool), v18 = .bool x18_2 ∧ Aside0 (ratio_Add.j0 kq x18_2 a0_0 l0_1 l0_2 a1_0 l1_1 l1_2 = some (r1, r2, r3, r4)) ∧ Aside0 (kq ≤ k) ∧ Aside0 (wc.heap[gb403]? = some (.cells #[.bool a0_0, (.slice A0_1 l0_1.length c0_1), (.slice A0_2 l0_2.length c0_2)] 44 (0, 0))) ∧ Aside0 (wc.heap[gb404]? = some (.cells #[.bool a1_0, (.slice A1_1 l1_1.length c1_1), (.slice A1_2 l1_2.length c1_2)] 44 (0, 0))) ∧ Aside0 (wc.heap[gb405]? = some (.cells #[.bool false, (.slice none 0 0), (.slice none 0 0)] 44 (0, 0))) ∧ Aside0 (Below w.heap.size w wc))
 case first =>
  have H := HC3.out
  clear HC3
  replace H := Option.bind_eq_some_iff.mp H
  obtain ⟨t406, A70, H⟩ := H
  replace H : (if t406 = true then ((ratio_May.f k a1_0 l1_1 l1_2).bind fun t407 => (ratio_Add.j0 k (!t407) a0_0 l0_1 l0_2 a1_0 l1_1 l1_2)) else (ratio_Add.j0 k true a0_0 l0_1 l0_2 a1_0 l1_1 l1_2)) = some (r1, r2, r3, r4) := H
  have A7 := Aside0.mk A70
  clear A70
  by_cases c8 : t406 = true
  ·
   subst c8
   have H1 : ((ratio_May.f k a1_0 l1_1 l1_2).bind fun t407 => (ratio_Add.j0 k (!t407) a0_0 l0_1 l0_2 a1_0 l1_1 l1_2)) = some (r1, r2, r3, r4) := by rw [if_pos rfl] at H; exact H
   clear H
   have H := H1
   clear H1
   replace H := Option.bind_eq_some_iff.mp H
   obtain ⟨t407, A90, H⟩ := H
   replace H : (ratio_Add.j0 k (!t407) a0_0 l0_1 l0_2 a1_0 l1_1 l1_2) = some (r1, r2, r3, r4) := H
   have A9 := Aside0.mk A90
   clear A90
   have H' := Aside0.mk H
   clear H
   have hnb10 := NB403_404.out
   have hnc10 := NB404_403.out
   have hnb11 := NB403_405.out
   have hnc11 := NB405_403.out
   have hcz12_0 : w6.cell? ⟨gb403, 0, none⟩ = some (.bool a0_0) := (blk_cell BK403.out 0).trans rfl
   have hcz12_1 : w6.cell? ⟨gb403, 1, none⟩ = some (.slice A0_1 l0_1.length c0_1) := (blk_cell BK403.out 1).trans rfl
   have hcz12_2 : w6.cell? ⟨gb403, 2, none⟩ = some (.slice A0_2 l0_2.length c0_2) := (blk_cell BK403.out 2).trans rfl
   have hfz12_0 := blk_frozen BK403.out 0
   have hfz12_1 := blk_frozen BK403.out 1
   have hfz12_2 := blk_frozen BK403.out 2
   go_wp2_with (first | ((with_reducible refine gate_callee (f := 27) rfl ?_); refine goesL_ (some 12) rfl rfl Try.func27 (by kernel_rfl) rfl #[.agg #[.bool a0_0, .slice A0_1 l0_1.length c0_1, .slice A0_2 l0_2.length c0_2]] rfl mt_ ?_; (with_reducible refine (ratio_May.calls k a0_0 _ _ l0_1 _ _ l0_2 true _ ?side1 ?side2 ?side3 ?side4 A7.out).mono ?_); (case side1 => exact cc_ (Kd.C_below HR0_1.out HB.out)); (case side2 => exact HC0_1.out); (case side3 => exact cc_ (Kd.C_below HR0_2.out HB.out)); (case side4 => exact HC0_2.out); rintro e w13 ⟨rfl, hb⟩; refine ⟨_, rfl, ?_⟩; have n0_ := Aside0.mk (blk_below (g := gb403) (o := .cells #[.bool a0_0, .slice A0_1 l0_1.length c0_1, .slice A0_2 l0_2.length c0_2] 44 (0, 0)) (kb_ BK403) hb); have n1_ := Aside0.mk (blk_below (g := gb404) (o := .cells #[.bool a1_0, .slice A1_1 l1_1.length c1_1, .slice A1_2 l1_2.length c1_2] 44 (0, 0)) (kb_ BK404) hb); have n2_ := Aside0.mk (blk_below (g := gb405) (o := .cells #[.bool false, .slice none 0 0, .slice none 0 0] 44 (0, 0)) (kb_ BK405) hb); have n3_ := Aside0.mk (below_step (bb3_ HB GE403 GE404 GE405) hb); clear BK403; clear BK404; clear BK405; clear HB; have BK403 := n0_; have BK404 := n1_; have BK405 := n2_; have HB := n3_; clear n0_ n1_ n2_ n3_; (try clear hb); (try clear hb2); (try clear hk); (try clear hi); have hnb14 := NB404_405.out; have hnc14 := NB405_404.out; have hcz15_0 : w13.cell? ⟨gb404, 0, none⟩ = some (.bool a1_0) := (blk_cell BK404.out 0).trans rfl; have hcz15_1 : w13.cell? ⟨gb404, 1, none⟩ = some (.slice A1_1 l1_1.length c1_1) := (blk_cell BK404.out 1).trans rfl; have hcz15_2 : w13.cell? ⟨gb404, 2, none⟩ = some (.slice A1_2 l1_2.length c1_2) := (blk_cell BK404.out 2).trans rfl; have hfz15_0 := blk_frozen BK404.out 0; have hfz15_1 := blk_frozen BK404.out 1; have hfz15_2 := blk_frozen BK404.out 2) | (go_at_call 27; (with_reducible refine (ratio_May.calls k a1_0 _ _ l1_1 _ _ l1_2 t407 _ ?side1 ?side2 ?side3 ?side4 A9.out).mono ?_); (case side1 => exact cc_ (Kd.C_below HR1_1.out HB.out)); (case side2 => exact HC1_1.out); (case side3 => exact cc_ (Kd.C_below HR1_2.out HB.out)); (case side4 => exact HC1_2.out); rintro e w16 ⟨rfl, hb⟩; have n0_ := Aside0.mk (blk_below (g := gb403) (o := .cells #[.bool a0_0, .slice A0_1 l0_1.length c0_1, .slice A0_2 l0_2.length c0_2] 44 (0, 0)) (kb_ BK403) hb); have n1_ := Aside0.mk (blk_below (g := gb404) (o := .cells #[.bool a1_0, .slice A1_1 l1_1.length c1_1, .slice A1_2 l1_2.length c1_2] 44 (0, 0)) (kb_ BK404) hb); have n2_ := Aside0.mk (blk_below (g := gb405) (o := .cells #[.bool false, .slice none 0 0, .slice none 0 0] 44 (0, 0)) (kb_ BK405) hb); have n3_ := Aside0.mk (below_step (bb3_ HB GE403 GE404 GE405) hb); clear BK403; clear BK404; clear BK405; clear HB; have BK403 := n0_; have BK404 := n1_; have BK405 := n2_; have HB := n3_; clear n0_ n1_ n2_ n3_; (try clear hb); (try clear hb2); (try clear hk); (try clear hi)))
   go_meet
   case rel => exact ⟨_, (!t407), sd_, H', ⟨by first | omega | exact Nat.le_refl _⟩, ⟨by (with_reducible repeat (first | refine blk_drewN ?_ _ | refine blk_drew ?_ | refine blk_alloc ?_ _)); exact BK403.out⟩, ⟨by (with_reducible repeat (first | refine blk_drewN ?_ _ | refine blk_drew ?_ | refine blk_alloc ?_ _)); exact BK404.out⟩, ⟨by (with_reducible repeat (first | refine blk_drewN ?_ _ | refine blk_drew ?_ | refine blk_alloc ?_ _)); exact BK405.out⟩, ⟨by repeat (first | (with_reducible first | exact HB.out | apply below_alloc | apply pw_below_drewN | apply below_drew1 | refine below_set ?_ GE403.out | refine below_set ?_ GE404.out | refine below_set ?_ GE405.out) | exact HB.out)⟩⟩
  ·
   replace c8 := Bool.eq_false_iff.mpr c8
   subst c8
   have H1 : (ratio_Add.j0 k true a0_0 l0_1 l0_2 a1_0 l1_1 l1_2) = some (r1, r2, r3, r4) := by rw [if_neg (show ¬ (false = true) by decide)] at H; exact H
   clear H
   have H := H1
   clear H1
   have H' := Aside0.mk H
   clear H
   have hnb17 := NB403_404.out
   have hnc17 := NB404_403.out
   have hnb18 := NB403_405.out
   have hnc18 := NB405_403.out
   have hcz19_0 : w6.cell? ⟨gb403, 0, none⟩ = some (.bool a0_0) := (blk_cell BK403.out 0).trans rfl
   have hcz19_1 : w6.cell? ⟨gb403, 1, none⟩ = some (.slice A0_1 l0_1.length c0_1) := (blk_cell BK403.out 1).trans rfl
   have hcz19_2 : w6.cell? ⟨gb403, 2, none⟩ = some (.slice A0_2 l0_2.length c0_2) := (blk_cell BK403.out 2).trans rfl
   have hfz19_0 := blk_frozen BK403.out 0
   have hfz19_1 := blk_frozen BK403.out 1
   have hfz19_2 := blk_frozen BK403.out 2
   go_wp2_with (first | ((with_reducible refine gate_callee (f := 27) rfl ?_); refine goesL_ (some 12) rfl rfl Try.func27 (by kernel_rfl) rfl #[.agg #[.bool a0_0, .slice A0_1 l0_1.length c0_1, .slice A0_2 l0_2.length c0_2]] rfl mt_ ?_; (with_reducible refine (ratio_May.calls k a0_0 _ _ l0_1 _ _ l0_2 false _ ?side1 ?side2 ?side3 ?side4 A7.out).mono ?_); (case side1 => exact cc_ (Kd.C_below HR0_1.out HB.out)); (case side2 => exact HC0_1.out); (case side3 => exact cc_ (Kd.C_below HR0_2.out HB.out)); (case side4 => exact HC0_2.out); rintro e w20 ⟨rfl, hb⟩; refine ⟨_, rfl, ?_⟩; have n0_ := Aside0.mk (blk_below (g := gb403) (o := .cells #[.bool a0_0, .slice A0_1 l0_1.length c0_1, .slice A0_2 l0_2.length c0_2] 44 (0, 0)) (kb_ BK403) hb); have n1_ := Aside0.mk (blk_below (g := gb404) (o := .cells #[.bool a1_0, .slice A1_1 l1_1.length c1_1, .slice A1_2 l1_2.length c1_2] 44 (0, 0)) (kb_ BK404) hb); have n2_ := Aside0.mk (blk_below (g := gb405) (o := .cells #[.bool false, .slice none 0 0, .slice none 0 0] 44 (0, 0)) (kb_ BK405) hb); have n3_ := Aside0.mk (below_step (bb3_ HB GE403 GE404 GE405) hb); clear BK403; clear BK404; clear BK405; clear HB; have BK403 := n0_; have BK404 := n1_; have BK405 := n2_; have HB := n3_; clear n0_ n1_ n2_ n3_; (try clear hb); (try clear hb2); (try clear hk); (try clear hi)))
   go_meet
   case rel => exact ⟨_, (true), sd_, H', ⟨by first | omega | exact Nat.le_refl _⟩, ⟨by (with_reducible repeat (first | refine blk_drewN ?_ _ | refine blk_drew ?_ | refine blk_alloc ?_ _)); exact BK403.out⟩, ⟨by (with_reducible repeat (first | refine blk_drewN ?_ _ | refine blk_drew ?_ | refine blk_alloc ?_ _)); exact BK404.out⟩, ⟨by (with_reducible repeat (first | refine blk_drewN ?_ _ | refine blk_drew ?_ | refine blk_alloc ?_ _)); exact BK405.out⟩, ⟨by repeat (first | (with_reducible first | exact HB.out | apply below_alloc | apply pw_below_drewN | apply below_drew1 | refine below_set ?_ GE403.out | refine below_set ?_ GE404.out | refine below_set ?_ GE405.out) | exact HB.out)⟩⟩
 case rest =>
  clear HC3
  try clear c1
  try clear c2
  try clear p2
  try clear c4
  try clear c8
  try clear c10
  try clear c11
  try clear c14
  try clear c17
  try clear c18
  try clear hcz12_0
  try clear hcz12_1
  try clear hcz12_2
  try clear hcz15_0
  try clear hcz15_1
  try clear hcz15_2
  try clear hcz19_0
  try clear hcz19_1
  try clear hcz19_2
  try clear hfz12_0
  try clear hfz12_1
  try clear hfz12_2
  try clear hfz15_0
  try clear hfz15_1
  try clear hfz15_2
  try clear hfz19_0
  try clear hfz19_1
  try clear hfz19_2
  obtain ⟨kq, x18_2, rfl, HA, HJ2, BK403, BK404, BK405, HB⟩ := hcut
  cases kq with
  | zero => exact absurd HA.out (by simp [ratio_Add.j0])
  | succ kj2 =>
   have H := HA.out
   clear HA
   simp only [ratio_Add.j0] at H
   by_cases c21 : x18_2 = true
   ·
    subst c21
    have H1 : (some (false, ([] : List Int), ([] : List Int), 1)) = some (r1, r2, r3, r4) := by rw [if_pos rfl] at H; exact H
    clear H
    have H := H1
    clear H1
    simp only [Option.some.injEq, Prod.mk.injEq] at H
    obtain ⟨rfl, rfl, rfl, rfl⟩ := H
    have hnb22 := NB405_403.out
    have hnc22 := NB403_405.out
    have hnb23 := NB405_404.out
    have hnc23 := NB404_405.out
    have hcz24_0 : wc.cell? ⟨gb405, 0, none⟩ = some (.bool false) := (blk_cell BK405.out 0).trans rfl
    have hcz24_1 : wc.cell? ⟨gb405, 1, none⟩ = some (.slice none 0 0) := (blk_cell BK405.out 1).trans rfl
    have hcz24_2 : wc.cell? ⟨gb405, 2, none⟩ = some (.slice none 0 0) := (blk_cell BK405.out 2).trans rfl
    have hfz24_0 := blk_frozen BK405.out 0
    have hfz24_1 := blk_frozen BK405.out 1
    have hfz24_2 := blk_frozen BK405.out 2
    go_wp2
    refine bodyPost_ret (results_ct rfl _ _ gb405 44 #[.bool false, .slice none 0 0, .slice none 0 0] (0, 0) _ rfl (by (with_reducible repeat (first | refine blk_drewN ?_ _ | refine blk_drew ?_ | refine blk_alloc ?_ _)); refine blk_put (cs := #[.bool false, .slice none 0 0, .slice none 0 0]) ?_ 2 _ (by first | rfl | (simp; done)); (with_reducible repeat (first | refine blk_drewN ?_ _ | refine blk_drew ?_ | refine blk_alloc ?_ _)); refine blk_put (cs := #[.bool false, .slice none 0 0, .slice none 0 0]) ?_ 1 _ (by first | rfl | (simp; done)); (with_reducible repeat (first | refine blk_drewN ?_ _ | refine blk_drew ?_ | refine blk_alloc ?_ _)); refine blk_put (cs := #[.bool false, .slice none 0 0, .slice none 0 0]) ?_ 0 _ (by first | rfl | (simp; done)); (with_reducible repeat (first | refine blk_drewN ?_ _ | refine blk_drew ?_ | refine blk_alloc ?_ _)); exact BK405.out) Try.underlying44 rfl (by kernel_rfl)) rfl ?_
    exact ⟨_, _, by first | rfl | (simp [errW_none, errW_some] <;> rfl) | (simp [*, errW_none, errW_some] <;> rfl), by first | exact Kd.R_nil _ _ _ _ _ | exact Kd.N_nil _ _ _ _ _ | exact Kd.V_nil _ _ _ _ _ | exact Kd.Q_nil _ _ _ _ _ | exact Kd.S_nil _ _ _ _ _, by first | exact Kd.R_nil _ _ _ _ _ | exact Kd.N_nil _ _ _ _ _ | exact Kd.V_nil _ _ _ _ _ | exact Kd.Q_nil _ _ _ _ _ | exact Kd.S_nil _ _ _ _ _, by repeat (first | (with_reducible first | exact HB.out | apply below_alloc | apply pw_below_drewN | apply below_drew1 | refine below_set ?_ GE403.out | refine below_set ?_ GE404.out | refine below_set ?_ GE405.out) | exact HB.out)⟩
   ·
    replace c21 := Bool.eq_false_iff.mpr c21
    subst c21
    have H1 : ((ratio_crossed.f kj2 a0_0 l0_1 l0_2 a1_0 l1_1 l1_2).bind fun bt408 => ((ratio_plus.f kj2 a0_0 bt408.1 a1_0 bt408.2).bind fun bt414 => ((limb_Mul.f kj2 l0_2 l1_2).bind fun t418 => ((ratio_big.f (([bt408.1, bt408.2, bt414.2, t418] : List (List Int)))).bind fun t424 => (if t424 = true then (some (false, ([] : List Int), ([] : List Int), 21)) else ((ratio_Make.f kj2 bt414.1 bt414.2 t418).bind fun bt425 => (some (bt425.1, bt425.2.1, bt425.2.2.1, bt425.2.2.2)))))))) = some (r1, r2, r3, r4) := by rw [if_neg (show ¬ (false = true) by decide)] at H; exact H
    clear H
    have H := H1
    clear H1
    replace H := Option.bind_eq_some_iff.mp H
    obtain ⟨⟨t408, t411⟩, A250, H⟩ := H
    replace H : ((ratio_plus.f kj2 a0_0 t408 a1_0 t411).bind fun bt414 => ((limb_Mul.f kj2 l0_2 l1_2).bind fun t418 => ((ratio_big.f (([t408, t411, bt414.2, t418] : List (List Int)))).bind fun t424 => (if t424 = true then (some (false, ([] : List Int), ([] : List Int), 21)) else ((ratio_Make.f kj2 bt414.1 bt414.2 t418).bind fun bt425 => (some (bt425.1, bt425.2.1, bt425.2.2.1, bt425.2.2.2))))))) = some (r1, r2, r3, r4) := H
    have A25 := Aside0.mk A250
    clear A250
    replace H := Option.bind_eq_some_iff.mp H
    obtain ⟨⟨t414, t415⟩, A260, H⟩ := H
    replace H : ((limb_Mul.f kj2 l0_2 l1_2).bind fun t418 => ((ratio_big.f (([t408, t411, t415, t418] : List (List Int)))).bind fun t424 => (if t424 = true then (some (false, ([] : List Int), ([] : List Int), 21)) else ((ratio_Make.f kj2 t414 t415 t418).bind fun bt425 => (some (bt425.1, bt425.2.1, bt425.2.2.1, bt425.2.2.2)))))) = some (r1, r2, r3, r4) := H
    have A26 := Aside0.mk A260
    clear A260
    replace H := Option.bind_eq_some_iff.mp H
    obtain ⟨t418, A270, H⟩ := H
    replace H : ((ratio_big.f (([t408, t411, t415, t418] : List (List Int)))).bind fun t424 => (if t424 = true then (some (false, ([] : List Int), ([] : List Int), 21)) else ((ratio_Make.f kj2 t414 t415 t418).bind fun bt425 => (some (bt425.1, bt425.2.1, bt425.2.2.1, bt425.2.2.2))))) = some (r1, r2, r3, r4) := H
    have A27 := Aside0.mk A270
    clear A270
    obtain ⟨y421, hy421⟩ : ∃ y_ : List (List Int), y_ = (([t408, t411, t415, t418] : List (List Int))) := ⟨_, rfl⟩
    replace H : ((ratio_big.f y421).bind fun t424 => (if t424 = true then (some (false, ([] : List Int), ([] : List Int), 21)) else ((ratio_Make.f kj2 t414 t415 t418).bind fun bt425 => (some (bt425.1, bt425.2.1, bt425.2.2.1, bt425.2.2.2))))) = some (r1, r2, r3, r4) := by first | (rw [hy421]; with_reducible exact H) | (have H2_ := (Option.bind_some _ _).symm.trans H; rw [hy421]; with_reducible exact H2_) | (have H2_ := (Option.bind_some _ _).symm.trans H; with_reducible exact H2_) | with_reducible exact H | (rw [hy421]; exact H) | exact H
    have Ny421 := Aside0.mk hy421
    clear hy421
    replace H := Option.bind_eq_some_iff.mp H
    obtain ⟨t424, A280, H⟩ := H
    replace H : (if t424 = true then (some (false, ([] : List Int), ([] : List Int), 21)) else ((ratio_Make.f kj2 t414 t415 t418).bind fun bt425 => (some (bt425.1, bt425.2.1, bt425.2.2.1, bt425.2.2.2)))) = some (r1, r2, r3, r4) := H
    have A28 := Aside0.mk A280
    clear A280
    by_cases c29 : t424 = true
    ·
     subst c29
     have H1 : (some (false, ([] : List Int), ([] : List Int), 21)) = some (r1, r2, r3, r4) := by rw [if_pos rfl] at H; exact H
     clear H
     have H := H1
     clear H1
     simp only [Option.some.injEq, Prod.mk.injEq] at H
     obtain ⟨rfl, rfl, rfl, rfl⟩ := H
     have hnb30 := NB403_404.out
     have hnc30 := NB404_403.out
     have hnb31 := NB403_405.out
     have hnc31 := NB405_403.out
     have hcz32_0 : wc.cell? ⟨gb403, 0, none⟩ = some (.bool a0_0) := (blk_cell BK403.out 0).trans rfl
     have hcz32_1 : wc.cell? ⟨gb403, 1, none⟩ = some (.slice A0_1 l0_1.length c0_1) := (blk_cell BK403.out 1).trans rfl
     have hcz32_2 : wc.cell? ⟨gb403, 2, none⟩ = some (.slice A0_2 l0_2.length c0_2) := (blk_cell BK403.out 2).trans rfl
     have hfz32_0 := blk_frozen BK403.out 0
     have hfz32_1 := blk_frozen BK403.out 1
     have hfz32_2 := blk_frozen BK403.out 2
     have hnb33 := NB404_405.out
     have hnc33 := NB405_404.out
     have hcz34_0 : wc.cell? ⟨gb404, 0, none⟩ = some (.bool a1_0) := (blk_cell BK404.out 0).trans rfl
     have hcz34_1 : wc.cell? ⟨gb404, 1, none⟩ = some (.slice A1_1 l1_1.length c1_1) := (blk_cell BK404.out 1).trans rfl
     have hcz34_2 : wc.cell? ⟨gb404, 2, none⟩ = some (.slice A1_2 l1_2.length c1_2) := (blk_cell BK404.out 2).trans rfl
     have hfz34_0 := blk_frozen BK404.out 0
     have hfz34_1 := blk_frozen BK404.out 1
     have hfz34_2 := blk_frozen BK404.out 2
     go_wp2_with (first | ((with_reducible refine gate_callee (f := 86) rfl ?_); refine goesL_ (some 23) rfl rfl Try.func86 (by kernel_rfl) rfl #[.agg #[.bool a0_0, .slice A0_1 l0_1.length c0_1, .slice A0_2 l0_2.length c0_2], .agg #[.bool a1_0, .slice A1_1 l1_1.length c1_1, .slice A1_2 l1_2.length c1_2]] rfl mt_ ?_; (with_reducible refine (ratio_crossed.calls kj2 a0_0 _ _ l0_1 _ _ l0_2 a1_0 _ _ l1_1 _ _ l1_2 t408 t411 _ ?side1 ?side2 ?side3 ?side4 ?side5 ?side6 ?side7 ?side8 A25.out).mono ?_); (case side1 => exact cc_ (Kd.C_below HR0_1.out HB.out)); (case side2 => exact HC0_1.out); (case side3 => exact cc_ (Kd.C_below HR0_2.out HB.out)); (case side4 => exact HC0_2.out); (case side5 => exact cc_ (Kd.C_below HR1_1.out HB.out)); (case side6 => exact HC1_1.out); (case side7 => exact cc_ (Kd.C_below HR1_2.out HB.out)); (case side8 => exact HC1_2.out); rintro e w35 ⟨v409, v412, rfl, ho0, ho1, hb⟩; refine ⟨_, rfl, ?_⟩; have n0_ := Aside0.mk (Kd.R_lower ho0 (below_size (bb3_ HB GE403 GE404 GE405))); have n1_ := Aside0.mk (Kd.R_lower ho1 (below_size (bb3_ HB GE403 GE404 GE405))); have n2_ := Aside0.mk (blk_below (g := gb403) (o := .cells #[.bool a0_0, .slice A0_1 l0_1.length c0_1, .slice A0_2 l0_2.length c0_2] 44 (0, 0)) (kb_ BK403) hb); have n3_ := Aside0.mk (blk_below (g := gb404) (o := .cells #[.bool a1_0, .slice A1_1 l1_1.length c1_1, .slice A1_2 l1_2.length c1_2] 44 (0, 0)) (kb_ BK404) hb); have n4_ := Aside0.mk (blk_below (g := gb405) (o := .cells #[.bool false, .slice none 0 0, .slice none 0 0] 44 (0, 0)) (kb_ BK405) hb); have n5_ := Aside0.mk (below_step (bb3_ HB GE403 GE404 GE405) hb); clear BK403; clear BK404; clear BK405; clear HB; have HO410 := n0_; have HO413 := n1_; have BK403 := n2_; have BK404 := n3_; have BK405 := n4_; have HB := n5_; clear n0_ n1_ n2_ n3_ n4_ n5_; (try clear hb); (try clear hb2); (try clear hk); (try clear hi); (try clear ho0); (try clear ho1); have hcz36_0 : w35.cell? ⟨gb403, 0, none⟩ = some (.bool a0_0) := (blk_cell BK403.out 0).trans rfl; have hcz36_1 : w35.cell? ⟨gb403, 1, none⟩ = some (.slice A0_1 l0_1.length c0_1) := (blk_cell BK403.out 1).trans rfl; have hcz36_2 : w35.cell? ⟨gb403, 2, none⟩ = some (.slice A0_2 l0_2.length c0_2) := (blk_cell BK403.out 2).trans rfl; have hfz36_0 := blk_frozen BK403.out 0; have hfz36_1 := blk_frozen BK403.out 1; have hfz36_2 := blk_frozen BK403.out 2; have hcz37_0 : w35.cell? ⟨gb404, 0, none⟩ = some (.bool a1_0) := (blk_cell BK404.out 0).trans rfl; have hcz37_1 : w35.cell? ⟨gb404, 1, none⟩ = some (.slice A1_1 l1_1.length c1_1) := (blk_cell BK404.out 1).trans rfl; have hcz37_2 : w35.cell? ⟨gb404, 2, none⟩ = some (.slice A1_2 l1_2.length c1_2) := (blk_cell BK404.out 2).trans rfl; have hfz37_0 := blk_frozen BK404.out 0; have hfz37_1 := blk_frozen BK404.out 1; have hfz37_2 := blk_frozen BK404.out 2; obtain ⟨Ao38, co38, eo38⟩ := Kd.R_slice HO410.out; subst eo38; obtain ⟨Ao39, co39, eo39⟩ := Kd.R_slice HO413.out; subst eo39) | ((with_reducible refine gate_callee (f := 87) rfl ?_); refine goesL_ (some 33) rfl rfl Try.func87 (by kernel_rfl) rfl #[.bool a0_0, .slice Ao38 t408.length co38, .bool a1_0, .slice Ao39 t411.length co39] rfl mt_ ?_; (with_reducible refine (ratio_plus.calls kj2 a0_0 (fun k_ => some k_ = (.slice Ao38 t408.length co38 : Value).ownBlock) _ _ t408 a1_0 _ _ t411 t414 t415 _ ?side1 ?side2 ?side3 A26.out).mono ?_); (case side1 => exact Kd.R_V (Kd.R_tight rfl (Kd.R_types (Kd.R_types (Kd.R_types (HO410.out) BK403.out (by decide)) BK404.out (by decide)) BK405.out (by decide)))); (case side2 => exact cc_ (Kd.R_reads' HO413.out).2.2); (case side3 => exact (Kd.R_reads' HO413.out).2.1); rintro e w40 ⟨v416, rfl, ho0, hb⟩; refine ⟨_, rfl, ?_⟩; have n0_ := Aside0.mk (Kd.R_below (rR_ HO410) hb); have n1_ := Aside0.mk (Kd.R_below (rR_ HO413) hb); have n2_ := Aside0.mk (Kd.V_lower (Kd.V_mono (ok' := fun k_ => some k_ ≠ (.slice Ao39 t411.length co39 : Value).ownBlock ∧ k_ ≠ gb403 ∧ k_ ≠ gb404 ∧ k_ ≠ gb405) ho0 (fun k_ hk_ => ⟨Or.elim hk_ (fun hs_ => ((Kd.R_types (Kd.R_types (Kd.R_types (HO410.out) BK403.out (by decide)) BK404.out (by decide)) BK405.out (by decide)).1 k_ hs_.symm).1.1.1) (fun hn_ => (Kd.fresh' (Kd.R_lt (rR_ HO413)) k_ hn_)), Or.elim hk_ (fun hs_ => ((Kd.R_types (Kd.R_types (Kd.R_types (HO410.out) BK403.out (by decide)) BK404.out (by decide)) BK405.out (by decide)).1 k_ hs_.symm).1.1.2) (fun hn_ => (Kd.freshB (g := gb403) (o := .cells #[.bool a0_0, .slice A0_1 l0_1.length c0_1, .slice A0_2 l0_2.length c0_2] 44 (0, 0)) (kb_ BK403) k_ hn_)), Or.elim hk_ (fun hs_ => ((Kd.R_types (Kd.R_types (Kd.R_types (HO410.out) BK403.out (by decide)) BK404.out (by decide)) BK405.out (by decide)).1 k_ hs_.symm).1.2) (fun hn_ => (Kd.freshB (g := gb404) (o := .cells #[.bool a1_0, .slice A1_1 l1_1.length c1_1, .slice A1_2 l1_2.length c1_2] 44 (0, 0)) (kb_ BK404) k_ hn_)), Or.elim hk_ (fun hs_ => ((Kd.R_types (Kd.R_types (Kd.R_types (HO410.out) BK403.out (by decide)) BK404.out (by decide)) BK405.out (by decide)).1 k_ hs_.symm).2) (fun hn_ => (Kd.freshB (g := gb405) (o := .cells #[.bool false, .slice none 0 0, .slice none 0 0] 44 (0, 0)) (kb_ BK405) k_ hn_))⟩)) (below_size (bb3_ HB GE403 GE404 GE405))); have n3_ := Aside0.mk (blk_below (g := gb403) (o := .cells #[.bool a0_0, .slice A0_1 l0_1.length c0_1, .slice A0_2 l0_2.length c0_2] 44 (0, 0)) (kb_ BK403) hb); have n4_ := Aside0.mk (blk_below (g := gb404) (o := .cells #[.bool a1_0, .slice A1_1 l1_1.length c1_1, .slice A1_2 l1_2.length c1_2] 44 (0, 0)) (kb_ BK404) hb); have n5_ := Aside0.mk (blk_below (g := gb405) (o := .cells #[.bool false, .slice none 0 0, .slice none 0 0] 44 (0, 0)) (kb_ BK405) hb); have n6_ := Aside0.mk (below_step (bb3_ HB GE403 GE404 GE405) hb); clear HO410; clear HO413; clear BK403; clear BK404; clear BK405; clear HB; have HO410 := n0_; have HO413 := n1_; have HO417 := n2_; have BK403 := n3_; have BK404 := n4_; have BK405 := n5_; have HB := n6_; clear n0_ n1_ n2_ n3_ n4_ n5_ n6_; (try clear hb); (try clear hb2); (try clear hk); (try clear hi); (try clear ho0); have hcz41_0 : w40.cell? ⟨gb403, 0, none⟩ = some (.bool a0_0) := (blk_cell BK403.out 0).trans rfl; have hcz41_1 : w40.cell? ⟨gb403, 1, none⟩ = some (.slice A0_1 l0_1.length c0_1) := (blk_cell BK403.out 1).trans rfl; have hcz41_2 : w40.cell? ⟨gb403, 2, none⟩ = some (.slice A0_2 l0_2.length c0_2) := (blk_cell BK403.out 2).trans rfl; have hfz41_0 := blk_frozen BK403.out 0; have hfz41_1 := blk_frozen BK403.out 1; have hfz41_2 := blk_frozen BK403.out 2; have hcz42_0 : w40.cell? ⟨gb404, 0, none⟩ = some (.bool a1_0) := (blk_cell BK404.out 0).trans rfl; have hcz42_1 : w40.cell? ⟨gb404, 1, none⟩ = some (.slice A1_1 l1_1.length c1_1) := (blk_cell BK404.out 1).trans rfl; have hcz42_2 : w40.cell? ⟨gb404, 2, none⟩ = some (.slice A1_2 l1_2.length c1_2) := (blk_cell BK404.out 2).trans rfl; have hfz42_0 := blk_frozen BK404.out 0; have hfz42_1 := blk_frozen BK404.out 1; have hfz42_2 := blk_frozen BK404.out 2) | ((with_reducible refine gate_callee (f := 88) rfl ?_); refine goesL_ (some 40) rfl rfl Try.func88 (by kernel_rfl) rfl #[.slice A0_2 l0_2.length c0_2, .slice A1_2 l1_2.length c1_2] rfl mt_ ?_; (with_reducible refine (limb_Mul.calls kj2 _ _ l0_2 _ _ l1_2 t418 _ ?side1 ?side2 ?side3 ?side4 A27.out).mono ?_); (case side1 => exact cc_ (Kd.C_below HR0_2.out HB.out)); (case side2 => exact HC0_2.out); (case side3 => exact cc_ (Kd.C_below HR1_2.out HB.out)); (case side4 => exact HC1_2.out); rintro e w43 ⟨v419, rfl, ho0, hb⟩; refine ⟨_, rfl, ?_⟩; have n0_ := Aside0.mk (Kd.R_elder' (rR_ HO410) (Kd.R_base ho0) hb); have n1_ := Aside0.mk (Kd.R_elder' (rR_ HO413) (Kd.R_base ho0) hb); have n2_ := Aside0.mk (Kd.V_elder' (rV_ HO417) (Kd.R_base ho0) hb); have n3_ := Aside0.mk (Kd.R_lower (Kd.R_new' (Kd.R_new' ho0 (Kd.R_lt (rR_ HO410))) (Kd.R_lt (rR_ HO413))) (below_size (bb3_ HB GE403 GE404 GE405))); have n4_ := Aside0.mk (blk_below (g := gb403) (o := .cells #[.bool a0_0, .slice A0_1 l0_1.length c0_1, .slice A0_2 l0_2.length c0_2] 44 (0, 0)) (kb_ BK403) hb); have n5_ := Aside0.mk (blk_below (g := gb404) (o := .cells #[.bool a1_0, .slice A1_1 l1_1.length c1_1, .slice A1_2 l1_2.length c1_2] 44 (0, 0)) (kb_ BK404) hb); have n6_ := Aside0.mk (blk_below (g := gb405) (o := .cells #[.bool false, .slice none 0 0, .slice none 0 0] 44 (0, 0)) (kb_ BK405) hb); have n7_ := Aside0.mk (below_step (bb3_ HB GE403 GE404 GE405) hb); clear HO410; clear HO413; clear HO417; clear BK403; clear BK404; clear BK405; clear HB; have HO410 := n0_; have HO413 := n1_; have HO417 := n2_; have HO420 := n3_; have BK403 := n4_; have BK404 := n5_; have BK405 := n6_; have HB := n7_; clear n0_ n1_ n2_ n3_ n4_ n5_ n6_ n7_; (try clear hb); (try clear hb2); (try clear hk); (try clear hi); (try clear ho0); obtain ⟨Ao44, co44, eo44⟩ := Kd.V_slice HO417.out; subst eo44; obtain ⟨Ao45, co45, eo45⟩ := Kd.R_slice HO420.out; subst eo45) | ((with_reducible refine gate_dst (N := 45) rfl ?_); refine Kd.N_lit (Kd.slice 22 (Kd.int .u64)) _ 35 ?hg (N' := 45) ?hd (xs := ([t408, t411, t415, t418] : List (List Int))) (inner := [.slice Ao38 t408.length co38, .slice Ao39 t411.length co39, .slice Ao44 t415.length co44, .slice Ao45 t418.length co45]) (ok := (fun k_ => k_ ≠ gb403 ∧ k_ ≠ gb404 ∧ k_ ≠ gb405)) (okp := (fun k_ => k_ ≠ gb403 ∧ k_ ≠ gb404 ∧ k_ ≠ gb405)) ?hr ?hp (fun _ hk => hk) ((show ∀ k_, w43.heap.size ≤ k_ → (fun k_ => k_ ≠ gb403 ∧ k_ ≠ gb404 ∧ k_ ≠ gb405) k_ from fun k_ hk => ⟨Kd.freshB (g := gb403) (o := .cells #[.bool a0_0, .slice A0_1 l0_1.length c0_1, .slice A0_2 l0_2.length c0_2] 44 (0, 0)) (kb_ BK403) k_ hk, Kd.freshB (g := gb404) (o := .cells #[.bool a1_0, .slice A1_1 l1_1.length c1_1, .slice A1_2 l1_2.length c1_2] 44 (0, 0)) (kb_ BK404) k_ hk, Kd.freshB (g := gb405) (o := .cells #[.bool false, .slice none 0 0, .slice none 0 0] 44 (0, 0)) (kb_ BK405) k_ hk⟩) _ (Nat.le_refl _)) (Below.refl _ _) (Nat.le_refl _) (by simp) ?_; (case hd => rfl); (case hg => rfl); (case hr => exact gs_); (case hp => exact (Reps.one (show Kd.FK (Kd.slice 22 (Kd.int .u64)) _ _ t408 [.slice Ao38 t408.length co38] from (Kd.FK_slice_mk (Kd.R_reads' (Kd.R_mono (ok' := (fun k_ => k_ ≠ gb403 ∧ k_ ≠ gb404 ∧ k_ ≠ gb405)) (Kd.R_types (Kd.R_types (Kd.R_types (HO410.out) BK403.out (by decide)) BK404.out (by decide)) BK405.out (by decide)) (fun k_ hk => ⟨hk.1.1.2, ⟨hk.1.2, hk.2⟩⟩))).2.1 (Kd.R_F (Kd.R_mono (ok' := (fun k_ => k_ ≠ gb403 ∧ k_ ≠ gb404 ∧ k_ ≠ gb405)) (Kd.R_types (Kd.R_types (Kd.R_types (HO410.out) BK403.out (by decide)) BK404.out (by decide)) BK405.out (by decide)) (fun k_ hk => ⟨hk.1.1.2, ⟨hk.1.2, hk.2⟩⟩))))) (Reps.one (show Kd.FK (Kd.slice 22 (Kd.int .u64)) _ _ t411 [.slice Ao39 t411.length co39] from (Kd.FK_slice_mk (Kd.R_reads' (Kd.R_mono (ok' := (fun k_ => k_ ≠ gb403 ∧ k_ ≠ gb404 ∧ k_ ≠ gb405)) (Kd.R_types (Kd.R_types (Kd.R_types (HO413.out) BK403.out (by decide)) BK404.out (by decide)) BK405.out (by decide)) (fun k_ hk => ⟨hk.1.1.2, ⟨hk.1.2, hk.2⟩⟩))).2.1 (Kd.R_F (Kd.R_mono (ok' := (fun k_ => k_ ≠ gb403 ∧ k_ ≠ gb404 ∧ k_ ≠ gb405)) (Kd.R_types (Kd.R_types (Kd.R_types (HO413.out) BK403.out (by decide)) BK404.out (by decide)) BK405.out (by decide)) (fun k_ hk => ⟨hk.1.1.2, ⟨hk.1.2, hk.2⟩⟩))))) (Reps.one (show Kd.FK (Kd.slice 22 (Kd.int .u64)) _ _ t415 [.slice Ao44 t415.length co44] from (Kd.FK_slice_mk (Kd.V_reads' (Kd.V_mono (ok' := (fun k_ => k_ ≠ gb403 ∧ k_ ≠ gb404 ∧ k_ ≠ gb405)) (HO417.out) (fun k_ hk => ⟨hk.1.2.1, ⟨hk.1.2.2.1, hk.1.2.2.2⟩⟩))).2.1 (Kd.V_F (Kd.V_mono (ok' := (fun k_ => k_ ≠ gb403 ∧ k_ ≠ gb404 ∧ k_ ≠ gb405)) (HO417.out) (fun k_ hk => ⟨hk.1.2.1, ⟨hk.1.2.2.1, hk.1.2.2.2⟩⟩))))) (Reps.one (show Kd.FK (Kd.slice 22 (Kd.int .u64)) _ _ t418 [.slice Ao45 t418.length co45] from (Kd.FK_slice_mk (Kd.R_reads' (Kd.R_mono (ok' := (fun k_ => k_ ≠ gb403 ∧ k_ ≠ gb404 ∧ k_ ≠ gb405)) (Kd.R_types (Kd.R_types (Kd.R_types (HO420.out) BK403.out (by decide)) BK404.out (by decide)) BK405.out (by decide)) (fun k_ hk => ⟨hk.1.1.2, ⟨hk.1.2, hk.2⟩⟩))).2.1 (Kd.R_F (Kd.R_mono (ok' := (fun k_ => k_ ≠ gb403 ∧ k_ ≠ gb404 ∧ k_ ≠ gb405)) (Kd.R_types (Kd.R_types (Kd.R_types (HO420.out) BK403.out (by decide)) BK404.out (by decide)) BK405.out (by decide)) (fun k_ hk => ⟨hk.1.1.2, ⟨hk.1.2, hk.2⟩⟩))))) (Reps.none _ _)))))); intro v422 w46 ho47 hb hg_ hnew_; clear hg_ hnew_; (first | rw [← Ny421.out] at ho47 | (simp only [Int.reduceToNat] at ho47; rw [← Ny421.out] at ho47)); have n0_ := Aside0.mk (Kd.V_elder' (rV_ HO417) (Kd.N_base ho47) hb); have n1_ := Aside0.mk (Kd.N_lower ho47 (below_size (bb3_ HB GE403 GE404 GE405))); have n2_ := Aside0.mk (blk_below (g := gb403) (o := .cells #[.bool a0_0, .slice A0_1 l0_1.length c0_1, .slice A0_2 l0_2.length c0_2] 44 (0, 0)) (kb_ BK403) hb); have n3_ := Aside0.mk (blk_below (g := gb404) (o := .cells #[.bool a1_0, .slice A1_1 l1_1.length c1_1, .slice A1_2 l1_2.length c1_2] 44 (0, 0)) (kb_ BK404) hb); have n4_ := Aside0.mk (blk_below (g := gb405) (o := .cells #[.bool false, .slice none 0 0, .slice none 0 0] 44 (0, 0)) (kb_ BK405) hb); have n5_ := Aside0.mk (below_step (bb3_ HB GE403 GE404 GE405) hb); clear HO417; clear BK403; clear BK404; clear BK405; clear HB; clear HO410; clear HO413; clear HO420; have HO417 := n0_; have HO423 := n1_; have BK403 := n2_; have BK404 := n3_; have BK405 := n4_; have HB := n5_; clear n0_ n1_ n2_ n3_ n4_ n5_; clear hb ho47; obtain ⟨Ao48, co48, eo48⟩ := Kd.N_slice HO423.out; subst eo48) | ((with_reducible refine gate_callee (f := 89) rfl ?_); refine goesL_ (some 46) rfl rfl Try.func89 (by kernel_rfl) rfl #[.slice Ao48 y421.length co48] rfl mt_ ?_; (with_reducible refine (ratio_big.calls _ _ y421 true _ ?side1 ?side2 A28.out).mono ?_); (case side1 => repeat (first | exact (Kd.N_reads' HO423.out).2.2 | (with_reducible refine Kd.C_alloc ?_ _) | (with_reducible refine Kd.C_drewN ?_ _) | (with_reducible refine Kd.C_drew ?_))); (case side2 => exact (Kd.N_reads' HO423.out).2.1); rintro e w' ⟨rfl, ⟨nd, rfl⟩⟩; refine ⟨_, rfl, ?_⟩; (try (rw [drewN_self w46]; generalize hq_ : World.drewN w46 _ = w46; have n0_ : Aside0 (Kd.V (Kd.int .u64) 22 w46 w.heap.size (fun k_ => some k_ ≠ (.slice Ao48 y421.length co48 : Value).ownBlock ∧ k_ ≠ gb403 ∧ k_ ≠ gb404 ∧ k_ ≠ gb405) (.slice Ao44 t415.length co44) t415) := ⟨by rw [← hq_]; exact (by (with_reducible repeat (first | apply Kd.V_alloc | apply Kd.V_drewN | apply Kd.V_drew)); exact Kd.V_mono HO417.out (fun _ hk => ⟨hk.2, ⟨hk.1.1.2.1, ⟨hk.1.1.2.2.1, hk.1.1.2.2.2⟩⟩⟩))⟩; have n1_ : Aside0 (Kd.N (Kd.slice 22 (Kd.int .u64)) 35 w46 w.heap.size (fun k_ => k_ ≠ gb403 ∧ k_ ≠ gb404 ∧ k_ ≠ gb405) (.slice Ao48 y421.length co48) y421) := ⟨by rw [← hq_]; exact (rN_ HO423)⟩; have n2_ : Aside0 (w46.heap[gb403]? = some (.cells #[.bool a0_0, .slice A0_1 l0_1.length c0_1, .slice A0_2 l0_2.length c0_2] 44 (0, 0))) := ⟨by rw [← hq_]; exact (kb_ BK403)⟩; have n3_ : Aside0 (w46.heap[gb404]? = some (.cells #[.bool a1_0, .slice A1_1 l1_1.length c1_1, .slice A1_2 l1_2.length c1_2] 44 (0, 0))) := ⟨by rw [← hq_]; exact (kb_ BK404)⟩; have n4_ : Aside0 (w46.heap[gb405]? = some (.cells #[.bool false, .slice none 0 0, .slice none 0 0] 44 (0, 0))) := ⟨by rw [← hq_]; exact (kb_ BK405)⟩; have n5_ : Aside0 (Below w.heap.size w w46) := ⟨by rw [← hq_]; exact (bb3_ HB GE403 GE404 GE405)⟩; clear HO417 HO423 BK403 BK404 BK405 HB hq_; have HO417 := n0_; have HO423 := n1_; have BK403 := n2_; have BK404 := n3_; have BK405 := n4_; have HB := n5_; clear n0_ n1_ n2_ n3_ n4_ n5_)); have hcz49_0 : w46.cell? ⟨gb405, 0, none⟩ = some (.bool false) := (blk_cell BK405.out 0).trans rfl; have hcz49_1 : w46.cell? ⟨gb405, 1, none⟩ = some (.slice none 0 0) := (blk_cell BK405.out 1).trans rfl; have hcz49_2 : w46.cell? ⟨gb405, 2, none⟩ = some (.slice none 0 0) := (blk_cell BK405.out 2).trans rfl; have hfz49_0 := blk_frozen BK405.out 0; have hfz49_1 := blk_frozen BK405.out 1; have hfz49_2 := blk_frozen BK405.out 2))
     refine bodyPost_ret (results_ct rfl _ _ gb405 44 #[.bool false, .slice none 0 0, .slice none 0 0] (0, 0) _ rfl (by (with_reducible repeat (first | refine blk_drewN ?_ _ | refine blk_drew ?_ | refine blk_alloc ?_ _)); refine blk_put (cs := #[.bool false, .slice none 0 0, .slice none 0 0]) ?_ 2 _ (by first | rfl | (simp; done)); (with_reducible repeat (first | refine blk_drewN ?_ _ | refine blk_drew ?_ | refine blk_alloc ?_ _)); refine blk_put (cs := #[.bool false, .slice none 0 0, .slice none 0 0]) ?_ 1 _ (by first | rfl | (simp; done)); (with_reducible repeat (first | refine blk_drewN ?_ _ | refine blk_drew ?_ | refine blk_alloc ?_ _)); refine blk_put (cs := #[.bool false, .slice none 0 0, .slice none 0 0]) ?_ 0 _ (by first | rfl | (simp; done)); (with_reducible repeat (first | refine blk_drewN ?_ _ | refine blk_drew ?_ | refine blk_alloc ?_ _)); exact BK405.out) Try.underlying44 rfl (by kernel_rfl)) rfl ?_
     exact ⟨_, _, by first | rfl | (simp [errW_none, errW_some] <;> rfl) | (simp [*, errW_none, errW_some] <;> rfl), by first | exact Kd.R_nil _ _ _ _ _ | exact Kd.N_nil _ _ _ _ _ | exact Kd.V_nil _ _ _ _ _ | exact Kd.Q_nil _ _ _ _ _ | exact Kd.S_nil _ _ _ _ _, by first | exact Kd.R_nil _ _ _ _ _ | exact Kd.N_nil _ _ _ _ _ | exact Kd.V_nil _ _ _ _ _ | exact Kd.Q_nil _ _ _ _ _ | exact Kd.S_nil _ _ _ _ _, by repeat (first | (with_reducible first | exact HB.out | apply below_alloc | apply pw_below_drewN | apply below_drew1 | refine below_set ?_ GE403.out | refine below_set ?_ GE404.out | refine below_set ?_ GE405.out) | exact HB.out)⟩
    ·
     replace c29 := Bool.eq_false_iff.mpr c29
     subst c29
     have H1 : ((ratio_Make.f kj2 t414 t415 t418).bind fun bt425 => (some (bt425.1, bt425.2.1, bt425.2.2.1, bt425.2.2.2))) = some (r1, r2, r3, r4) := by rw [if_neg (show ¬ (false = true) by decide)] at H; exact H
     clear H
     have H := H1
     clear H1
     replace H := Option.bind_eq_some_iff.mp H
     obtain ⟨⟨t425, t426, t429, t432⟩, A500, H⟩ := H
     replace H : (some (t425, t426, t429, t432)) = some (r1, r2, r3, r4) := H
     have A50 := Aside0.mk A500
     clear A500
     simp only [Option.some.injEq, Prod.mk.injEq] at H
     obtain ⟨rfl, rfl, rfl, rfl⟩ := H
     have hnb51 := NB403_404.out
     have hnc51 := NB404_403.out
     have hnb52 := NB403_405.out
     have hnc52 := NB405_403.out
     have hcz53_0 : wc.cell? ⟨gb403, 0, none⟩ = some (.bool a0_0) := (blk_cell BK403.out 0).trans rfl
     have hcz53_1 : wc.cell? ⟨gb403, 1, none⟩ = some (.slice A0_1 l0_1.length c0_1) := (blk_cell BK403.out 1).trans rfl
     have hcz53_2 : wc.cell? ⟨gb403, 2, none⟩ = some (.slice A0_2 l0_2.length c0_2) := (blk_cell BK403.out 2).trans rfl
     have hfz53_0 := blk_frozen BK403.out 0
     have hfz53_1 := blk_frozen BK403.out 1
     have hfz53_2 := blk_frozen BK403.out 2
     have hnb54 := NB404_405.out
     have hnc54 := NB405_404.out
     have hcz55_0 : wc.cell? ⟨gb404, 0, none⟩ = some (.bool a1_0) := (blk_cell BK404.out 0).trans rfl
     have hcz55_1 : wc.cell? ⟨gb404, 1, none⟩ = some (.slice A1_1 l1_1.length c1_1) := (blk_cell BK404.out 1).trans rfl
     have hcz55_2 : wc.cell? ⟨gb404, 2, none⟩ = some (.slice A1_2 l1_2.length c1_2) := (blk_cell BK404.out 2).trans rfl
     have hfz55_0 := blk_frozen BK404.out 0
     have hfz55_1 := blk_frozen BK404.out 1
     have hfz55_2 := blk_frozen BK404.out 2
     go_wp2_with (first | ((with_reducible refine gate_callee (f := 86) rfl ?_); refine goesL_ (some 23) rfl rfl Try.func86 (by kernel_rfl) rfl #[.agg #[.bool a0_0, .slice A0_1 l0_1.length c0_1, .slice A0_2 l0_2.length c0_2], .agg #[.bool a1_0, .slice A1_1 l1_1.length c1_1, .slice A1_2 l1_2.length c1_2]] rfl mt_ ?_; (with_reducible refine (ratio_crossed.calls kj2 a0_0 _ _ l0_1 _ _ l0_2 a1_0 _ _ l1_1 _ _ l1_2 t408 t411 _ ?side1 ?side2 ?side3 ?side4 ?side5 ?side6 ?side7 ?side8 A25.out).mono ?_); (case side1 => exact cc_ (Kd.C_below HR0_1.out HB.out)); (case side2 => exact HC0_1.out); (case side3 => exact cc_ (Kd.C_below HR0_2.out HB.out)); (case side4 => exact HC0_2.out); (case side5 => exact cc_ (Kd.C_below HR1_1.out HB.out)); (case side6 => exact HC1_1.out); (case side7 => exact cc_ (Kd.C_below HR1_2.out HB.out)); (case side8 => exact HC1_2.out); rintro e w56 ⟨v409, v412, rfl, ho0, ho1, hb⟩; refine ⟨_, rfl, ?_⟩; have n0_ := Aside0.mk (Kd.R_lower ho0 (below_size (bb3_ HB GE403 GE404 GE405))); have n1_ := Aside0.mk (Kd.R_lower ho1 (below_size (bb3_ HB GE403 GE404 GE405))); have n2_ := Aside0.mk (blk_below (g := gb403) (o := .cells #[.bool a0_0, .slice A0_1 l0_1.length c0_1, .slice A0_2 l0_2.length c0_2] 44 (0, 0)) (kb_ BK403) hb); have n3_ := Aside0.mk (blk_below (g := gb404) (o := .cells #[.bool a1_0, .slice A1_1 l1_1.length c1_1, .slice A1_2 l1_2.length c1_2] 44 (0, 0)) (kb_ BK404) hb); have n4_ := Aside0.mk (blk_below (g := gb405) (o := .cells #[.bool false, .slice none 0 0, .slice none 0 0] 44 (0, 0)) (kb_ BK405) hb); have n5_ := Aside0.mk (below_step (bb3_ HB GE403 GE404 GE405) hb); clear BK403; clear BK404; clear BK405; clear HB; have HO410 := n0_; have HO413 := n1_; have BK403 := n2_; have BK404 := n3_; have BK405 := n4_; have HB := n5_; clear n0_ n1_ n2_ n3_ n4_ n5_; (try clear hb); (try clear hb2); (try clear hk); (try clear hi); (try clear ho0); (try clear ho1); have hcz57_0 : w56.cell? ⟨gb403, 0, none⟩ = some (.bool a0_0) := (blk_cell BK403.out 0).trans rfl; have hcz57_1 : w56.cell? ⟨gb403, 1, none⟩ = some (.slice A0_1 l0_1.length c0_1) := (blk_cell BK403.out 1).trans rfl; have hcz57_2 : w56.cell? ⟨gb403, 2, none⟩ = some (.slice A0_2 l0_2.length c0_2) := (blk_cell BK403.out 2).trans rfl; have hfz57_0 := blk_frozen BK403.out 0; have hfz57_1 := blk_frozen BK403.out 1; have hfz57_2 := blk_frozen BK403.out 2; have hcz58_0 : w56.cell? ⟨gb404, 0, none⟩ = some (.bool a1_0) := (blk_cell BK404.out 0).trans rfl; have hcz58_1 : w56.cell? ⟨gb404, 1, none⟩ = some (.slice A1_1 l1_1.length c1_1) := (blk_cell BK404.out 1).trans rfl; have hcz58_2 : w56.cell? ⟨gb404, 2, none⟩ = some (.slice A1_2 l1_2.length c1_2) := (blk_cell BK404.out 2).trans rfl; have hfz58_0 := blk_frozen BK404.out 0; have hfz58_1 := blk_frozen BK404.out 1; have hfz58_2 := blk_frozen BK404.out 2; obtain ⟨Ao59, co59, eo59⟩ := Kd.R_slice HO410.out; subst eo59; obtain ⟨Ao60, co60, eo60⟩ := Kd.R_slice HO413.out; subst eo60) | ((with_reducible refine gate_callee (f := 87) rfl ?_); refine goesL_ (some 33) rfl rfl Try.func87 (by kernel_rfl) rfl #[.bool a0_0, .slice Ao59 t408.length co59, .bool a1_0, .slice Ao60 t411.length co60] rfl mt_ ?_; (with_reducible refine (ratio_plus.calls kj2 a0_0 (fun k_ => some k_ = (.slice Ao59 t408.length co59 : Value).ownBlock) _ _ t408 a1_0 _ _ t411 t414 t415 _ ?side1 ?side2 ?side3 A26.out).mono ?_); (case side1 => exact Kd.R_V (Kd.R_tight rfl (Kd.R_types (Kd.R_types (Kd.R_types (HO410.out) BK403.out (by decide)) BK404.out (by decide)) BK405.out (by decide)))); (case side2 => exact cc_ (Kd.R_reads' HO413.out).2.2); (case side3 => exact (Kd.R_reads' HO413.out).2.1); rintro e w61 ⟨v416, rfl, ho0, hb⟩; refine ⟨_, rfl, ?_⟩; have n0_ := Aside0.mk (Kd.R_below (rR_ HO410) hb); have n1_ := Aside0.mk (Kd.R_below (rR_ HO413) hb); have n2_ := Aside0.mk (Kd.V_lower (Kd.V_mono (ok' := fun k_ => some k_ ≠ (.slice Ao60 t411.length co60 : Value).ownBlock ∧ k_ ≠ gb403 ∧ k_ ≠ gb404 ∧ k_ ≠ gb405) ho0 (fun k_ hk_ => ⟨Or.elim hk_ (fun hs_ => ((Kd.R_types (Kd.R_types (Kd.R_types (HO410.out) BK403.out (by decide)) BK404.out (by decide)) BK405.out (by decide)).1 k_ hs_.symm).1.1.1) (fun hn_ => (Kd.fresh' (Kd.R_lt (rR_ HO413)) k_ hn_)), Or.elim hk_ (fun hs_ => ((Kd.R_types (Kd.R_types (Kd.R_types (HO410.out) BK403.out (by decide)) BK404.out (by decide)) BK405.out (by decide)).1 k_ hs_.symm).1.1.2) (fun hn_ => (Kd.freshB (g := gb403) (o := .cells #[.bool a0_0, .slice A0_1 l0_1.length c0_1, .slice A0_2 l0_2.length c0_2] 44 (0, 0)) (kb_ BK403) k_ hn_)), Or.elim hk_ (fun hs_ => ((Kd.R_types (Kd.R_types (Kd.R_types (HO410.out) BK403.out (by decide)) BK404.out (by decide)) BK405.out (by decide)).1 k_ hs_.symm).1.2) (fun hn_ => (Kd.freshB (g := gb404) (o := .cells #[.bool a1_0, .slice A1_1 l1_1.length c1_1, .slice A1_2 l1_2.length c1_2] 44 (0, 0)) (kb_ BK404) k_ hn_)), Or.elim hk_ (fun hs_ => ((Kd.R_types (Kd.R_types (Kd.R_types (HO410.out) BK403.out (by decide)) BK404.out (by decide)) BK405.out (by decide)).1 k_ hs_.symm).2) (fun hn_ => (Kd.freshB (g := gb405) (o := .cells #[.bool false, .slice none 0 0, .slice none 0 0] 44 (0, 0)) (kb_ BK405) k_ hn_))⟩)) (below_size (bb3_ HB GE403 GE404 GE405))); have n3_ := Aside0.mk (blk_below (g := gb403) (o := .cells #[.bool a0_0, .slice A0_1 l0_1.length c0_1, .slice A0_2 l0_2.length c0_2] 44 (0, 0)) (kb_ BK403) hb); have n4_ := Aside0.mk (blk_below (g := gb404) (o := .cells #[.bool a1_0, .slice A1_1 l1_1.length c1_1, .slice A1_2 l1_2.length c1_2] 44 (0, 0)) (kb_ BK404) hb); have n5_ := Aside0.mk (blk_below (g := gb405) (o := .cells #[.bool false, .slice none 0 0, .slice none 0 0] 44 (0, 0)) (kb_ BK405) hb); have n6_ := Aside0.mk (below_step (bb3_ HB GE403 GE404 GE405) hb); clear HO410; clear HO413; clear BK403; clear BK404; clear BK405; clear HB; have HO410 := n0_; have HO413 := n1_; have HO417 := n2_; have BK403 := n3_; have BK404 := n4_; have BK405 := n5_; have HB := n6_; clear n0_ n1_ n2_ n3_ n4_ n5_ n6_; (try clear hb); (try clear hb2); (try clear hk); (try clear hi); (try clear ho0); have hcz62_0 : w61.cell? ⟨gb403, 0, none⟩ = some (.bool a0_0) := (blk_cell BK403.out 0).trans rfl; have hcz62_1 : w61.cell? ⟨gb403, 1, none⟩ = some (.slice A0_1 l0_1.length c0_1) := (blk_cell BK403.out 1).trans rfl; have hcz62_2 : w61.cell? ⟨gb403, 2, none⟩ = some (.slice A0_2 l0_2.length c0_2) := (blk_cell BK403.out 2).trans rfl; have hfz62_0 := blk_frozen BK403.out 0; have hfz62_1 := blk_frozen BK403.out 1; have hfz62_2 := blk_frozen BK403.out 2; have hcz63_0 : w61.cell? ⟨gb404, 0, none⟩ = some (.bool a1_0) := (blk_cell BK404.out 0).trans rfl; have hcz63_1 : w61.cell? ⟨gb404, 1, none⟩ = some (.slice A1_1 l1_1.length c1_1) := (blk_cell BK404.out 1).trans rfl; have hcz63_2 : w61.cell? ⟨gb404, 2, none⟩ = some (.slice A1_2 l1_2.length c1_2) := (blk_cell BK404.out 2).trans rfl; have hfz63_0 := blk_frozen BK404.out 0; have hfz63_1 := blk_frozen BK404.out 1; have hfz63_2 := blk_frozen BK404.out 2) | ((with_reducible refine gate_callee (f := 88) rfl ?_); refine goesL_ (some 40) rfl rfl Try.func88 (by kernel_rfl) rfl #[.slice A0_2 l0_2.length c0_2, .slice A1_2 l1_2.length c1_2] rfl mt_ ?_; (with_reducible refine (limb_Mul.calls kj2 _ _ l0_2 _ _ l1_2 t418 _ ?side1 ?side2 ?side3 ?side4 A27.out).mono ?_); (case side1 => exact cc_ (Kd.C_below HR0_2.out HB.out)); (case side2 => exact HC0_2.out); (case side3 => exact cc_ (Kd.C_below HR1_2.out HB.out)); (case side4 => exact HC1_2.out); rintro e w64 ⟨v419, rfl, ho0, hb⟩; refine ⟨_, rfl, ?_⟩; have n0_ := Aside0.mk (Kd.R_elder' (rR_ HO410) (Kd.R_base ho0) hb); have n1_ := Aside0.mk (Kd.R_elder' (rR_ HO413) (Kd.R_base ho0) hb); have n2_ := Aside0.mk (Kd.V_elder' (rV_ HO417) (Kd.R_base ho0) hb); have n3_ := Aside0.mk (Kd.R_lower (Kd.R_new' (Kd.R_new' ho0 (Kd.R_lt (rR_ HO410))) (Kd.R_lt (rR_ HO413))) (below_size (bb3_ HB GE403 GE404 GE405))); have n4_ := Aside0.mk (blk_below (g := gb403) (o := .cells #[.bool a0_0, .slice A0_1 l0_1.length c0_1, .slice A0_2 l0_2.length c0_2] 44 (0, 0)) (kb_ BK403) hb); have n5_ := Aside0.mk (blk_below (g := gb404) (o := .cells #[.bool a1_0, .slice A1_1 l1_1.length c1_1, .slice A1_2 l1_2.length c1_2] 44 (0, 0)) (kb_ BK404) hb); have n6_ := Aside0.mk (blk_below (g := gb405) (o := .cells #[.bool false, .slice none 0 0, .slice none 0 0] 44 (0, 0)) (kb_ BK405) hb); have n7_ := Aside0.mk (below_step (bb3_ HB GE403 GE404 GE405) hb); clear HO410; clear HO413; clear HO417; clear BK403; clear BK404; clear BK405; clear HB; have HO410 := n0_; have HO413 := n1_; have HO417 := n2_; have HO420 := n3_; have BK403 := n4_; have BK404 := n5_; have BK405 := n6_; have HB := n7_; clear n0_ n1_ n2_ n3_ n4_ n5_ n6_ n7_; (try clear hb); (try clear hb2); (try clear hk); (try clear hi); (try clear ho0); obtain ⟨Ao65, co65, eo65⟩ := Kd.V_slice HO417.out; subst eo65; obtain ⟨Ao66, co66, eo66⟩ := Kd.R_slice HO420.out; subst eo66) | ((with_reducible refine gate_dst (N := 45) rfl ?_); refine Kd.N_lit (Kd.slice 22 (Kd.int .u64)) _ 35 ?hg (N' := 45) ?hd (xs := ([t408, t411, t415, t418] : List (List Int))) (inner := [.slice Ao59 t408.length co59, .slice Ao60 t411.length co60, .slice Ao65 t415.length co65, .slice Ao66 t418.length co66]) (ok := (fun k_ => k_ ≠ gb403 ∧ k_ ≠ gb404 ∧ k_ ≠ gb405)) (okp := (fun k_ => k_ ≠ gb403 ∧ k_ ≠ gb404 ∧ k_ ≠ gb405)) ?hr ?hp (fun _ hk => hk) ((show ∀ k_, w64.heap.size ≤ k_ → (fun k_ => k_ ≠ gb403 ∧ k_ ≠ gb404 ∧ k_ ≠ gb405) k_ from fun k_ hk => ⟨Kd.freshB (g := gb403) (o := .cells #[.bool a0_0, .slice A0_1 l0_1.length c0_1, .slice A0_2 l0_2.length c0_2] 44 (0, 0)) (kb_ BK403) k_ hk, Kd.freshB (g := gb404) (o := .cells #[.bool a1_0, .slice A1_1 l1_1.length c1_1, .slice A1_2 l1_2.length c1_2] 44 (0, 0)) (kb_ BK404) k_ hk, Kd.freshB (g := gb405) (o := .cells #[.bool false, .slice none 0 0, .slice none 0 0] 44 (0, 0)) (kb_ BK405) k_ hk⟩) _ (Nat.le_refl _)) (Below.refl _ _) (Nat.le_refl _) (by simp) ?_; (case hd => rfl); (case hg => rfl); (case hr => exact gs_); (case hp => exact (Reps.one (show Kd.FK (Kd.slice 22 (Kd.int .u64)) _ _ t408 [.slice Ao59 t408.length co59] from (Kd.FK_slice_mk (Kd.R_reads' (Kd.R_mono (ok' := (fun k_ => k_ ≠ gb403 ∧ k_ ≠ gb404 ∧ k_ ≠ gb405)) (Kd.R_types (Kd.R_types (Kd.R_types (HO410.out) BK403.out (by decide)) BK404.out (by decide)) BK405.out (by decide)) (fun k_ hk => ⟨hk.1.1.2, ⟨hk.1.2, hk.2⟩⟩))).2.1 (Kd.R_F (Kd.R_mono (ok' := (fun k_ => k_ ≠ gb403 ∧ k_ ≠ gb404 ∧ k_ ≠ gb405)) (Kd.R_types (Kd.R_types (Kd.R_types (HO410.out) BK403.out (by decide)) BK404.out (by decide)) BK405.out (by decide)) (fun k_ hk => ⟨hk.1.1.2, ⟨hk.1.2, hk.2⟩⟩))))) (Reps.one (show Kd.FK (Kd.slice 22 (Kd.int .u64)) _ _ t411 [.slice Ao60 t411.length co60] from (Kd.FK_slice_mk (Kd.R_reads' (Kd.R_mono (ok' := (fun k_ => k_ ≠ gb403 ∧ k_ ≠ gb404 ∧ k_ ≠ gb405)) (Kd.R_types (Kd.R_types (Kd.R_types (HO413.out) BK403.out (by decide)) BK404.out (by decide)) BK405.out (by decide)) (fun k_ hk => ⟨hk.1.1.2, ⟨hk.1.2, hk.2⟩⟩))).2.1 (Kd.R_F (Kd.R_mono (ok' := (fun k_ => k_ ≠ gb403 ∧ k_ ≠ gb404 ∧ k_ ≠ gb405)) (Kd.R_types (Kd.R_types (Kd.R_types (HO413.out) BK403.out (by decide)) BK404.out (by decide)) BK405.out (by decide)) (fun k_ hk => ⟨hk.1.1.2, ⟨hk.1.2, hk.2⟩⟩))))) (Reps.one (show Kd.FK (Kd.slice 22 (Kd.int .u64)) _ _ t415 [.slice Ao65 t415.length co65] from (Kd.FK_slice_mk (Kd.V_reads' (Kd.V_mono (ok' := (fun k_ => k_ ≠ gb403 ∧ k_ ≠ gb404 ∧ k_ ≠ gb405)) (HO417.out) (fun k_ hk => ⟨hk.1.2.1, ⟨hk.1.2.2.1, hk.1.2.2.2⟩⟩))).2.1 (Kd.V_F (Kd.V_mono (ok' := (fun k_ => k_ ≠ gb403 ∧ k_ ≠ gb404 ∧ k_ ≠ gb405)) (HO417.out) (fun k_ hk => ⟨hk.1.2.1, ⟨hk.1.2.2.1, hk.1.2.2.2⟩⟩))))) (Reps.one (show Kd.FK (Kd.slice 22 (Kd.int .u64)) _ _ t418 [.slice Ao66 t418.length co66] from (Kd.FK_slice_mk (Kd.R_reads' (Kd.R_mono (ok' := (fun k_ => k_ ≠ gb403 ∧ k_ ≠ gb404 ∧ k_ ≠ gb405)) (Kd.R_types (Kd.R_types (Kd.R_types (HO420.out) BK403.out (by decide)) BK404.out (by decide)) BK405.out (by decide)) (fun k_ hk => ⟨hk.1.1.2, ⟨hk.1.2, hk.2⟩⟩))).2.1 (Kd.R_F (Kd.R_mono (ok' := (fun k_ => k_ ≠ gb403 ∧ k_ ≠ gb404 ∧ k_ ≠ gb405)) (Kd.R_types (Kd.R_types (Kd.R_types (HO420.out) BK403.out (by decide)) BK404.out (by decide)) BK405.out (by decide)) (fun k_ hk => ⟨hk.1.1.2, ⟨hk.1.2, hk.2⟩⟩))))) (Reps.none _ _)))))); intro v422 w67 ho68 hb hg_ hnew_; clear hg_ hnew_; (first | rw [← Ny421.out] at ho68 | (simp only [Int.reduceToNat] at ho68; rw [← Ny421.out] at ho68)); have n0_ := Aside0.mk (Kd.V_elder' (rV_ HO417) (Kd.N_base ho68) hb); have n1_ := Aside0.mk (Kd.N_lower ho68 (below_size (bb3_ HB GE403 GE404 GE405))); have n2_ := Aside0.mk (blk_below (g := gb403) (o := .cells #[.bool a0_0, .slice A0_1 l0_1.length c0_1, .slice A0_2 l0_2.length c0_2] 44 (0, 0)) (kb_ BK403) hb); have n3_ := Aside0.mk (blk_below (g := gb404) (o := .cells #[.bool a1_0, .slice A1_1 l1_1.length c1_1, .slice A1_2 l1_2.length c1_2] 44 (0, 0)) (kb_ BK404) hb); have n4_ := Aside0.mk (blk_below (g := gb405) (o := .cells #[.bool false, .slice none 0 0, .slice none 0 0] 44 (0, 0)) (kb_ BK405) hb); have n5_ := Aside0.mk (below_step (bb3_ HB GE403 GE404 GE405) hb); have m0_ := Aside0.mk (Kd.R_elder' (rR_ HO420) (Kd.N_base ho68) hb); clear HO417; clear BK403; clear BK404; clear BK405; clear HB; clear HO410; clear HO413; clear HO420; have HO417 := n0_; have HO423 := n1_; have BK403 := n2_; have BK404 := n3_; have BK405 := n4_; have HB := n5_; clear n0_ n1_ n2_ n3_ n4_ n5_; have HO420 := m0_; clear m0_; clear hb ho68; obtain ⟨Ao69, co69, eo69⟩ := Kd.N_slice HO423.out; subst eo69) | ((with_reducible refine gate_callee (f := 89) rfl ?_); refine goesL_ (some 46) rfl rfl Try.func89 (by kernel_rfl) rfl #[.slice Ao69 y421.length co69] rfl mt_ ?_; (with_reducible refine (ratio_big.calls _ _ y421 false _ ?side1 ?side2 A28.out).mono ?_); (case side1 => repeat (first | exact (Kd.N_reads' HO423.out).2.2 | (with_reducible refine Kd.C_alloc ?_ _) | (with_reducible refine Kd.C_drewN ?_ _) | (with_reducible refine Kd.C_drew ?_))); (case side2 => exact (Kd.N_reads' HO423.out).2.1); rintro e w' ⟨rfl, ⟨nd, rfl⟩⟩; refine ⟨_, rfl, ?_⟩; (try (rw [drewN_self w67]; generalize hq_ : World.drewN w67 _ = w67; have m0_ := Aside0.mk (show Kd.R (Kd.int .u64) 22 w67 w.heap.size _ _ _ from (by rw [← hq_]; exact (rR_ HO420))); have n0_ : Aside0 (Kd.V (Kd.int .u64) 22 w67 w.heap.size (fun k_ => some k_ ≠ (.slice Ao69 y421.length co69 : Value).ownBlock ∧ k_ ≠ gb403 ∧ k_ ≠ gb404 ∧ k_ ≠ gb405) (.slice Ao65 t415.length co65) t415) := ⟨by rw [← hq_]; exact (by (with_reducible repeat (first | apply Kd.V_alloc | apply Kd.V_drewN | apply Kd.V_drew)); exact Kd.V_mono HO417.out (fun _ hk => ⟨hk.2, ⟨hk.1.1.2.1, ⟨hk.1.1.2.2.1, hk.1.1.2.2.2⟩⟩⟩))⟩; have n1_ : Aside0 (Kd.N (Kd.slice 22 (Kd.int .u64)) 35 w67 w.heap.size (fun k_ => k_ ≠ gb403 ∧ k_ ≠ gb404 ∧ k_ ≠ gb405) (.slice Ao69 y421.length co69) y421) := ⟨by rw [← hq_]; exact (rN_ HO423)⟩; have n2_ : Aside0 (w67.heap[gb403]? = some (.cells #[.bool a0_0, .slice A0_1 l0_1.length c0_1, .slice A0_2 l0_2.length c0_2] 44 (0, 0))) := ⟨by rw [← hq_]; exact (kb_ BK403)⟩; have n3_ : Aside0 (w67.heap[gb404]? = some (.cells #[.bool a1_0, .slice A1_1 l1_1.length c1_1, .slice A1_2 l1_2.length c1_2] 44 (0, 0))) := ⟨by rw [← hq_]; exact (kb_ BK404)⟩; have n4_ : Aside0 (w67.heap[gb405]? = some (.cells #[.bool false, .slice none 0 0, .slice none 0 0] 44 (0, 0))) := ⟨by rw [← hq_]; exact (kb_ BK405)⟩; have n5_ : Aside0 (Below w.heap.size w w67) := ⟨by rw [← hq_]; exact (bb3_ HB GE403 GE404 GE405)⟩; clear HO417 HO423 BK403 BK404 BK405 HB hq_; have HO417 := n0_; have HO423 := n1_; have BK403 := n2_; have BK404 := n3_; have BK405 := n4_; have HB := n5_; clear n0_ n1_ n2_ n3_ n4_ n5_; clear HO420; have HO420 := m0_; clear m0_))) | ((with_reducible refine gate_callee (f := 24) rfl ?_); refine goesL_ (some 51) rfl rfl Try.func24 (by kernel_rfl) rfl #[.bool t414, .slice Ao65 t415.length co65, .slice Ao66 t418.length co66] rfl mt_ ?_; (with_reducible refine (ratio_Make.calls kj2 t414 _ _ t415 _ _ t418 t425 t426 t429 t432 _ ?side1 ?side2 ?side3 ?side4 A50.out).mono ?_); (case side1 => repeat (first | exact (Kd.V_reads' HO417.out).2.2 | (with_reducible refine Kd.C_alloc ?_ _) | (with_reducible refine Kd.C_drewN ?_ _) | (with_reducible refine Kd.C_drew ?_))); (case side2 => exact (Kd.V_reads' HO417.out).2.1); (case side3 => exact cc_ (Kd.R_reads' HO420.out).2.2); (case side4 => exact (Kd.R_reads' HO420.out).2.1); rintro e w70 ⟨v427, v430, rfl, ho0, ho1, hb⟩; refine ⟨_, rfl, ?_⟩; have n0_ := Aside0.mk (Kd.V_mono (Kd.V_told (Kd.V_told (Kd.V_old (rV_ HO417) hb) (Kd.R_base ho0)) (Kd.R_base ho1)) (fun _ h_ => h_.1)); have n1_ := Aside0.mk (Kd.N_mono (Kd.N_told (Kd.N_told (Kd.N_old (rN_ HO423) hb) (Kd.R_base ho0)) (Kd.R_base ho1)) (fun _ h_ => h_.1)); have n2_ := Aside0.mk (Kd.R_lower ho0 (below_size (bb3_ HB GE403 GE404 GE405))); have n3_ := Aside0.mk (Kd.R_lower ho1 (below_size (bb3_ HB GE403 GE404 GE405))); have n4_ := Aside0.mk (blk_below (g := gb403) (o := .cells #[.bool a0_0, .slice A0_1 l0_1.length c0_1, .slice A0_2 l0_2.length c0_2] 44 (0, 0)) (kb_ BK403) hb); have n5_ := Aside0.mk (blk_below (g := gb404) (o := .cells #[.bool a1_0, .slice A1_1 l1_1.length c1_1, .slice A1_2 l1_2.length c1_2] 44 (0, 0)) (kb_ BK404) hb); have n6_ := Aside0.mk (blk_below (g := gb405) (o := .cells #[.bool false, .slice none 0 0, .slice none 0 0] 44 (0, 0)) (kb_ BK405) hb); have n7_ := Aside0.mk (below_step (bb3_ HB GE403 GE404 GE405) hb); clear HO417; clear HO423; clear BK403; clear BK404; clear BK405; clear HB; have HO417 := n0_; have HO423 := n1_; have HO428 := n2_; have HO431 := n3_; have BK403 := n4_; have BK404 := n5_; have BK405 := n6_; have HB := n7_; clear n0_ n1_ n2_ n3_ n4_ n5_ n6_ n7_; (try clear hb); (try clear hb2); (try clear hk); (try clear hi); (try clear ho0); (try clear ho1); have hcz71_0 : w70.cell? ⟨gb405, 0, none⟩ = some (.bool false) := (blk_cell BK405.out 0).trans rfl; have hcz71_1 : w70.cell? ⟨gb405, 1, none⟩ = some (.slice none 0 0) := (blk_cell BK405.out 1).trans rfl; have hcz71_2 : w70.cell? ⟨gb405, 2, none⟩ = some (.slice none 0 0) := (blk_cell BK405.out 2).trans rfl; have hfz71_0 := blk_frozen BK405.out 0; have hfz71_1 := blk_frozen BK405.out 1; have hfz71_2 := blk_frozen BK405.out 2; obtain ⟨Ao72, co72, eo72⟩ := Kd.R_slice HO428.out; subst eo72; obtain ⟨Ao73, co73, eo73⟩ := Kd.R_slice HO431.out; subst eo73))
     refine bodyPost_ret (results_ct rfl _ _ gb405 44 #[.bool t425, .slice Ao72 t426.length co72, .slice Ao73 t429.length co73] (0, 0) _ rfl (by (with_reducible repeat (first | refine blk_drewN ?_ _ | refine blk_drew ?_ | refine blk_alloc ?_ _)); refine blk_put (cs := #[.bool t425, .slice Ao72 t426.length co72, .slice none 0 0]) ?_ 2 _ (by first | rfl | (simp; done)); (with_reducible repeat (first | refine blk_drewN ?_ _ | refine blk_drew ?_ | refine blk_alloc ?_ _)); refine blk_put (cs := #[.bool t425, .slice none 0 0, .slice none 0 0]) ?_ 1 _ (by first | rfl | (simp; done)); (with_reducible repeat (first | refine blk_drewN ?_ _ | refine blk_drew ?_ | refine blk_alloc ?_ _)); refine blk_put (cs := #[.bool false, .slice none 0 0, .slice none 0 0]) ?_ 0 _ (by first | rfl | (simp; done)); (with_reducible repeat (first | refine blk_drewN ?_ _ | refine blk_drew ?_ | refine blk_alloc ?_ _)); exact BK405.out) Try.underlying44 rfl (by kernel_rfl)) rfl ?_
     exact ⟨_, _, by first | rfl | (simp [errW_none, errW_some] <;> rfl) | (simp [*, errW_none, errW_some] <;> rfl), by (with_reducible repeat (first | apply Kd.R_alloc | apply Kd.R_drewN | apply Kd.R_drew)); exact Kd.R_mono (Kd.R_far (p := ⟨gb405, 2, none⟩) (Kd.R_far (p := ⟨gb405, 1, none⟩) (Kd.R_far (p := ⟨gb405, 0, none⟩) (Kd.R_types HO428.out BK405.out (by decide)) (fun _ hk => hk.2) (.bool t425)) (fun _ hk => hk.2) (.slice Ao72 t426.length co72)) (fun _ hk => hk.2) (.slice Ao73 t429.length co73)) (fun _ hk => hk.1), by (with_reducible repeat (first | apply Kd.R_alloc | apply Kd.R_drewN | apply Kd.R_drew)); exact Kd.R_mono (Kd.R_far (p := ⟨gb405, 2, none⟩) (Kd.R_far (p := ⟨gb405, 1, none⟩) (Kd.R_far (p := ⟨gb405, 0, none⟩) (Kd.R_types HO431.out BK405.out (by decide)) (fun _ hk => hk.2) (.bool t425)) (fun _ hk => hk.2) (.slice Ao72 t426.length co72)) (fun _ hk => hk.2) (.slice Ao73 t429.length co73)) (fun _ hk => hk.1), by repeat (first | (with_reducible first | exact HB.out | apply below_alloc | apply pw_below_drewN | apply below_drew1 | refine below_set ?_ GE403.out | refine below_set ?_ GE404.out | refine below_set ?_ GE405.out) | exact HB.out)⟩

end Go.Proofs.Ytijgeonhbmgikaa.PORatioOne
