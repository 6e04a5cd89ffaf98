-- Written by a program of this session (pr.py, over the kit's print.py).
import Derived.Test.YtfoickaangjmnaaPOQueueAllx0
import Derived.Test.YtfoickaangjmnaaPOQueueAllx1
import Derived.Test.YtfoickaangjmnaaPOQueueAllx5
import Derived.Test.YtfoickaangjmnaaPOQueueAllx6
namespace Go.Proofs.Ytfoickaangjmnaa.POQueueAll
open Go.RowKit Go.Proofs.YtfoickaangjmnaaN Go.Proofs.YtfoickaangjmnaaW.PrintWords Go.Proofs.YtfoickaangjmnaaW.PrintLast Go.Proofs.YtfoickaangjmnaaW.PrintMore
attribute [local go_sem] max2_int min2_int max_two min_two max_three min_three max_four min_four   -- for this text's walks alone
set_option linter.unusedVariables false
set_option linter.unusedSimpArgs false

attribute [local go_sem high] eqA26
/-! ### syzygylaw15_shown: function 14 -/
def syzygylaw15_shown.f  : Option (Bool) := (queue_Next.f 0 (([(⟨2, 0, 0, 0⟩ : S36), (⟨0, 1, 0, 0⟩ : S36), (⟨1, 1, 0, 0⟩ : S36)] : List (S36))) (([(⟨0, 1⟩ : S26), (⟨0, 2⟩ : S26), (⟨1, 2⟩ : S26)] : List (S26)))).bind fun bt125 => (if bt125.2.2.2 = true then (if (bt125.1 == 1 && (bt125.2.1 == 2)) = true then (some ((bt125.2.2.1.length : Int) == 2)) else (some false)) else (some false))
set_option maxHeartbeats 8000000 in
set_option maxRecDepth 100000 in
theorem syzygylaw15_shown.calls  (r : Bool) (w : World) (h : syzygylaw15_shown.f  = some r) :
    Calls Try.prog 14 #[] w fun e w' => e = .returned (.bool r) ∧ Below w.heap.size w w' := by
  have hu36 := Try.underlying36
  have hu26 := Try.underlying26
  have HB := Aside0.mk (Below.refl w.heap.size w)
  have H : ((queue_Next.f 0 (([(⟨2, 0, 0, 0⟩ : S36), (⟨0, 1, 0, 0⟩ : S36), (⟨1, 1, 0, 0⟩ : S36)] : List (S36))) (([(⟨0, 1⟩ : S26), (⟨0, 2⟩ : S26), (⟨1, 2⟩ : S26)] : List (S26)))).bind fun bt125 => (if bt125.2.2.2 = true then (if (bt125.1 == 1 && (bt125.2.1 == 2)) = true then (some ((bt125.2.2.1.length : Int) == 2)) else (some false)) else (some false))) = some r := h
  clear h
  obtain ⟨y119, hy119⟩ : ∃ y_ : List (S36), y_ = (([(⟨2, 0, 0, 0⟩ : S36), (⟨0, 1, 0, 0⟩ : S36), (⟨1, 1, 0, 0⟩ : S36)] : List (S36))) := ⟨_, rfl⟩
  replace H : ((queue_Next.f 0 y119 (([(⟨0, 1⟩ : S26), (⟨0, 2⟩ : S26), (⟨1, 2⟩ : S26)] : List (S26)))).bind fun bt125 => (if bt125.2.2.2 = true then (if (bt125.1 == 1 && (bt125.2.1 == 2)) = true then (some ((bt125.2.2.1.length : Int) == 2)) else (some false)) else (some false))) = some r := by first | (rw [hy119]; with_reducible exact H) | (have H2_ := (Option.bind_some _ _).symm.trans H; rw [hy119]; with_reducible exact H2_) | (have H2_ := (Option.bind_some _ _).symm.trans H; with_reducible exact H2_) | with_reducible exact H | (rw [hy119]; exact H) | exact H
  have Ny119 := Aside0.mk hy119
  clear hy119
  obtain ⟨y122, hy122⟩ : ∃ y_ : List (S26), y_ = (([(⟨0, 1⟩ : S26), (⟨0, 2⟩ : S26), (⟨1, 2⟩ : S26)] : List (S26))) := ⟨_, rfl⟩
  replace H : ((queue_Next.f 0 y119 y122).bind fun bt125 => (if bt125.2.2.2 = true then (if (bt125.1 == 1 && (bt125.2.1 == 2)) = true then (some ((bt125.2.2.1.length : Int) == 2)) else (some false)) else (some false))) = some r := by first | (rw [hy122]; with_reducible exact H) | (have H2_ := (Option.bind_some _ _).symm.trans H; rw [hy122]; with_reducible exact H2_) | (have H2_ := (Option.bind_some _ _).symm.trans H; with_reducible exact H2_) | with_reducible exact H | (rw [hy122]; exact H) | exact H
  have Ny122 := Aside0.mk hy122
  clear hy122
  replace H := Option.bind_eq_some_iff.mp H
  obtain ⟨⟨t125, t126, t127, t130⟩, A10, H⟩ := H
  replace H : (if t130 = true then (if (t125 == 1 && (t126 == 2)) = true then (some ((t127.length : Int) == 2)) else (some false)) else (some false)) = some r := H
  have A1 := Aside0.mk A10
  clear A10
  by_cases c2 : t130 = true
  · subst c2
    have H1 : (if (t125 == 1 && (t126 == 2)) = true then (some ((t127.length : Int) == 2)) else (some false)) = some r := by rw [if_pos rfl] at H; exact H
    clear H
    have H := H1
    clear H1
    by_cases c3 : (t125 == 1 && (t126 == 2)) = true
    · rw [if_pos c3] at H
      have c3b0 : (t125 == 1 && (t126 == 2)) = true := c3
      (try (have c3b1 : decide (t125 = 1 && (t126 == 2)) = true := by simpa using c3))
      (try (have c3b2 : (t125 == 1 && (t126 == 2)) = true := by simpa using c3))
      clear c3
      obtain rfl := Option.some.inj H
      go_enter Try.func14, Try.ntmps14
      go_wp2_with (first | ((with_reducible refine gate_dst (N := 8) rfl ?_); (try (refine gate_guard (by rfl) ?_; dsimp only)); refine Kd.R_lit k36 _ 36 ?hg (N := 8) ?hd (xs := ([(⟨2, 0, 0, 0⟩ : S36), (⟨0, 1, 0, 0⟩ : S36), (⟨1, 1, 0, 0⟩ : S36)] : List (S36))) (inner := [.int .i64 2, .int .i64 0, .int .i64 0, .int .i64 0, .int .i64 0, .int .i64 1, .int .i64 0, .int .i64 0, .int .i64 1, .int .i64 1, .int .i64 0, .int .i64 0]) (ok := fun _ => True) (okp := fun _ => True) ?hr ?hp (fun _ hk => hk) trivial (Below.refl _ _) (Nat.le_refl _) (by simp) ?_; (case hd => rfl); (case hg => rfl); (case hr => first | (go_simp; done) | (go_simp; rfl)); (case hp => exact (Reps.c4 (show Kd.M k36 _ _ _ (⟨2, 0, 0, 0⟩ : S36) [.int .i64 2, .int .i64 0, .int .i64 0, .int .i64 0] from (k36_mkM _ _ _ (⟨2, 0, 0, 0⟩ : S36) )) (Reps.c4 (show Kd.M k36 _ _ _ (⟨0, 1, 0, 0⟩ : S36) [.int .i64 0, .int .i64 1, .int .i64 0, .int .i64 0] from (k36_mkM _ _ _ (⟨0, 1, 0, 0⟩ : S36) )) (Reps.c4 (show Kd.M k36 _ _ _ (⟨1, 1, 0, 0⟩ : S36) [.int .i64 1, .int .i64 1, .int .i64 0, .int .i64 0] from (k36_mkM _ _ _ (⟨1, 1, 0, 0⟩ : S36) )) (Reps.none _ _))))); intro v120 w4 ho5 hb hg_ hnew_; clear hg_ hnew_; (first | rw [← Ny119.out] at ho5 | (simp only [Int.reduceToNat] at ho5; rw [← Ny119.out] at ho5)); have n0_ := Aside0.mk (Kd.R_lower ho5 (below_size (by repeat (first | (with_reducible first | exact HB.out | apply below_alloc | apply pw_below_drewN | apply below_drew1) | exact HB.out)))); have n1_ := Aside0.mk (below_step (by repeat (first | (with_reducible first | exact HB.out | apply below_alloc | apply pw_below_drewN | apply below_drew1) | exact HB.out)) hb); clear HB; have HO121 := n0_; have HB := n1_; clear n0_ n1_; clear hb ho5) | ((with_reducible refine gate_dst (N := 12) rfl ?_); (try (refine gate_guard (by rfl) ?_; dsimp only)); refine Kd.R_lit k26 _ 26 ?hg (N := 12) ?hd (xs := ([(⟨0, 1⟩ : S26), (⟨0, 2⟩ : S26), (⟨1, 2⟩ : S26)] : List (S26))) (inner := [.int .i64 0, .int .i64 1, .int .i64 0, .int .i64 2, .int .i64 1, .int .i64 2]) (ok := fun _ => True) (okp := fun _ => True) ?hr ?hp (fun _ hk => hk) trivial (Below.refl _ _) (Nat.le_refl _) (by simp) ?_; (case hd => rfl); (case hg => rfl); (case hr => first | (go_simp; done) | (go_simp; rfl)); (case hp => exact (Reps.c2 (show Kd.M k26 _ _ _ (⟨0, 1⟩ : S26) [.int .i64 0, .int .i64 1] from (k26_mkM _ _ _ (⟨0, 1⟩ : S26) )) (Reps.c2 (show Kd.M k26 _ _ _ (⟨0, 2⟩ : S26) [.int .i64 0, .int .i64 2] from (k26_mkM _ _ _ (⟨0, 2⟩ : S26) )) (Reps.c2 (show Kd.M k26 _ _ _ (⟨1, 2⟩ : S26) [.int .i64 1, .int .i64 2] from (k26_mkM _ _ _ (⟨1, 2⟩ : S26) )) (Reps.none _ _))))); intro v123 w6 ho7 hb hg_ hnew_; clear hg_ hnew_; (first | rw [← Ny122.out] at ho7 | (simp only [Int.reduceToNat] at ho7; rw [← Ny122.out] at ho7)); have n0_ := Aside0.mk (Kd.R_below (by (with_reducible repeat (first | apply Kd.R_alloc | apply Kd.R_drewN | apply Kd.R_drew)); exact HO121.out) hb); have n1_ := Aside0.mk (Kd.R_lower ho7 (below_size (by repeat (first | (with_reducible first | exact HB.out | apply below_alloc | apply pw_below_drewN | apply below_drew1) | exact HB.out)))); have n2_ := Aside0.mk (below_step (by repeat (first | (with_reducible first | exact HB.out | apply below_alloc | apply pw_below_drewN | apply below_drew1) | exact HB.out)) hb); clear HO121; clear HB; have HO121 := n0_; have HO124 := n1_; have HB := n2_; clear n0_ n1_ n2_; clear hb ho7; obtain ⟨Ao8, co8, eo8⟩ := Kd.R_slice HO121.out; subst eo8; obtain ⟨Ao9, co9, eo9⟩ := Kd.R_slice HO124.out; subst eo9) | ((with_reducible refine gate_callee (f := 15) rfl ?_); refine goesL_ (some 13) rfl rfl Try.func15 (by kernel_rfl) rfl #[.int .i64 0, .slice Ao8 y119.length co8, .slice Ao9 y122.length co9] rfl (by (try simp only [List.map_toArray, List.map_cons, List.map_nil]); first | done | rfl | (simp only [List.length_drop, List.length_take]; rfl)) ?_; (with_reducible refine (queue_Next.calls 0 _ _ y119 _ _ y122 t125 t126 t127 true _ ?side1 ?side2 ?side3 ?side4 A1.out).mono ?_); (case side1 => repeat (first | exact (Kd.R_reads' HO121.out).2.2 | (with_reducible refine Kd.C_alloc ?_ _) | (with_reducible refine Kd.C_drewN ?_ _) | (with_reducible refine Kd.C_drew ?_))); (case side2 => exact (Kd.R_reads' HO121.out).2.1); (case side3 => repeat (first | exact (Kd.R_reads' HO124.out).2.2 | (with_reducible refine Kd.C_alloc ?_ _) | (with_reducible refine Kd.C_drewN ?_ _) | (with_reducible refine Kd.C_drew ?_))); (case side4 => exact (Kd.R_reads' HO124.out).2.1); rintro e w10 ⟨v128, rfl, ho0, hb⟩; refine ⟨_, rfl, ?_⟩; have n0_ := Aside0.mk (Kd.R_below (by (with_reducible repeat (first | apply Kd.R_alloc | apply Kd.R_drewN | apply Kd.R_drew)); exact HO121.out) hb); have n1_ := Aside0.mk (Kd.R_elder' (by (with_reducible repeat (first | apply Kd.R_alloc | apply Kd.R_drewN | apply Kd.R_drew)); exact HO124.out) (Kd.R_base ho0) hb); have n2_ := Aside0.mk (Kd.R_lower (Kd.R_new' ho0 (Kd.R_lt (by (with_reducible repeat (first | apply Kd.R_alloc | apply Kd.R_drewN | apply Kd.R_drew)); exact HO124.out))) (below_size (by repeat (first | (with_reducible first | exact HB.out | apply below_alloc | apply pw_below_drewN | apply below_drew1) | exact HB.out)))); have n3_ := Aside0.mk (below_step (by repeat (first | (with_reducible first | exact HB.out | apply below_alloc | apply pw_below_drewN | apply below_drew1) | exact HB.out)) hb); clear HO121; clear HO124; clear HB; have HO121 := n0_; have HO124 := n1_; have HO129 := n2_; have HB := n3_; clear n0_ n1_ n2_ n3_; (try clear hb); (try clear hb2); (try clear hk); (try clear hi); (try clear ho0)) | ((with_reducible refine gate_dst (N := 1) rfl ?_); (try (refine gate_guard (by rfl) ?_; dsimp only)); refine box_event ?hg (N := 1) ?hd (cs := #[.int .i64 0, .int .i64 0]) (t := 26) ?hr ?_; (case hd => rfl); (case hg => rfl); (case hr => first | (go_simp; done) | (go_simp; rfl)); intro gb131 hg w11 hbox hb; have n0_ := Aside0.mk (Kd.R_below (by (with_reducible repeat (first | apply Kd.R_alloc | apply Kd.R_drewN | apply Kd.R_drew)); exact HO121.out) hb); have n1_ := Aside0.mk (Kd.R_below (Kd.R_elderB (by (with_reducible repeat (first | apply Kd.R_alloc | apply Kd.R_drewN | apply Kd.R_drew)); exact HO124.out) gb131 (Nat.le_of_eq hg.symm)) hb); have n2_ := Aside0.mk (Kd.R_below (Kd.R_elderB (by (with_reducible repeat (first | apply Kd.R_alloc | apply Kd.R_drewN | apply Kd.R_drew)); exact HO129.out) gb131 (Nat.le_of_eq hg.symm)) hb); have n3_ := Aside0.mk (below_step (by repeat (first | (with_reducible first | exact HB.out | apply below_alloc | apply pw_below_drewN | apply below_drew1) | exact HB.out)) hb); have n4_ := Aside0.mk (hbox); have n5_ := Aside0.mk ((by rw [hg]; exact (below_size (by repeat (first | (with_reducible first | exact HB.out | apply below_alloc | apply pw_below_drewN | apply below_drew1) | exact HB.out))) : w.heap.size ≤ gb131)); have n6_ := Aside0.mk ((by rw [hg]; exact (below_size (by repeat (first | (with_reducible first | exact HB.out | apply below_alloc | apply pw_below_drewN | apply below_drew1) | exact HB.out))) : w.heap.size ≤ gb131)); clear HO121; clear HO124; clear HO129; clear HB; have HO121 := n0_; have HO124 := n1_; have HO129 := n2_; have HB := n3_; have BK131 := n4_; have GW131 := n5_; have GE131 := n6_; clear n0_ n1_ n2_ n3_ n4_ n5_ n6_; clear hb hbox hg; have hcz12_0 : w11.cell? ⟨gb131, 0, none⟩ = some (.int .i64 0) := (blk_cell BK131.out 0).trans rfl; have hcz12_1 : w11.cell? ⟨gb131, 1, none⟩ = some (.int .i64 0) := (blk_cell BK131.out 1).trans rfl; have hfz12_0 := blk_frozen BK131.out 0; have hfz12_1 := blk_frozen BK131.out 1; obtain ⟨Ao13, co13, eo13⟩ := Kd.R_slice HO129.out; subst eo13))
      go_ret
      exact ⟨by first | rfl | (simp [errW_none, errW_some] <;> rfl) | (simp [*, errW_none, errW_some] <;> rfl), by repeat (first | (with_reducible first | exact HB.out | apply below_alloc | apply pw_below_drewN | apply below_drew1 | refine below_set ?_ GE131.out) | exact HB.out)⟩
    · rw [if_neg c3] at H
      have c3b0 : (t125 == 1 && (t126 == 2)) = false := by simpa using c3
      (try (have c3b1 : decide (t125 = 1 && (t126 == 2)) = false := by simpa using c3))
      (try (have c3b2 : (t125 == 1 && (t126 == 2)) = false := by simpa using c3))
      (try (have c3b3 : ¬ (t125 = 1 && (t126 == 2)) := by simpa using c3))
      clear c3
      obtain rfl := Option.some.inj H
      go_enter Try.func14, Try.ntmps14
      go_wp2_with (first | ((with_reducible refine gate_dst (N := 8) rfl ?_); (try (refine gate_guard (by rfl) ?_; dsimp only)); refine Kd.R_lit k36 _ 36 ?hg (N := 8) ?hd (xs := ([(⟨2, 0, 0, 0⟩ : S36), (⟨0, 1, 0, 0⟩ : S36), (⟨1, 1, 0, 0⟩ : S36)] : List (S36))) (inner := [.int .i64 2, .int .i64 0, .int .i64 0, .int .i64 0, .int .i64 0, .int .i64 1, .int .i64 0, .int .i64 0, .int .i64 1, .int .i64 1, .int .i64 0, .int .i64 0]) (ok := fun _ => True) (okp := fun _ => True) ?hr ?hp (fun _ hk => hk) trivial (Below.refl _ _) (Nat.le_refl _) (by simp) ?_; (case hd => rfl); (case hg => rfl); (case hr => first | (go_simp; done) | (go_simp; rfl)); (case hp => exact (Reps.c4 (show Kd.M k36 _ _ _ (⟨2, 0, 0, 0⟩ : S36) [.int .i64 2, .int .i64 0, .int .i64 0, .int .i64 0] from (k36_mkM _ _ _ (⟨2, 0, 0, 0⟩ : S36) )) (Reps.c4 (show Kd.M k36 _ _ _ (⟨0, 1, 0, 0⟩ : S36) [.int .i64 0, .int .i64 1, .int .i64 0, .int .i64 0] from (k36_mkM _ _ _ (⟨0, 1, 0, 0⟩ : S36) )) (Reps.c4 (show Kd.M k36 _ _ _ (⟨1, 1, 0, 0⟩ : S36) [.int .i64 1, .int .i64 1, .int .i64 0, .int .i64 0] from (k36_mkM _ _ _ (⟨1, 1, 0, 0⟩ : S36) )) (Reps.none _ _))))); intro v120 w14 ho15 hb hg_ hnew_; clear hg_ hnew_; (first | rw [← Ny119.out] at ho15 | (simp only [Int.reduceToNat] at ho15; rw [← Ny119.out] at ho15)); have n0_ := Aside0.mk (Kd.R_lower ho15 (below_size (by repeat (first | (with_reducible first | exact HB.out | apply below_alloc | apply pw_below_drewN | apply below_drew1) | exact HB.out)))); have n1_ := Aside0.mk (below_step (by repeat (first | (with_reducible first | exact HB.out | apply below_alloc | apply pw_below_drewN | apply below_drew1) | exact HB.out)) hb); clear HB; have HO121 := n0_; have HB := n1_; clear n0_ n1_; clear hb ho15) | ((with_reducible refine gate_dst (N := 12) rfl ?_); (try (refine gate_guard (by rfl) ?_; dsimp only)); refine Kd.R_lit k26 _ 26 ?hg (N := 12) ?hd (xs := ([(⟨0, 1⟩ : S26), (⟨0, 2⟩ : S26), (⟨1, 2⟩ : S26)] : List (S26))) (inner := [.int .i64 0, .int .i64 1, .int .i64 0, .int .i64 2, .int .i64 1, .int .i64 2]) (ok := fun _ => True) (okp := fun _ => True) ?hr ?hp (fun _ hk => hk) trivial (Below.refl _ _) (Nat.le_refl _) (by simp) ?_; (case hd => rfl); (case hg => rfl); (case hr => first | (go_simp; done) | (go_simp; rfl)); (case hp => exact (Reps.c2 (show Kd.M k26 _ _ _ (⟨0, 1⟩ : S26) [.int .i64 0, .int .i64 1] from (k26_mkM _ _ _ (⟨0, 1⟩ : S26) )) (Reps.c2 (show Kd.M k26 _ _ _ (⟨0, 2⟩ : S26) [.int .i64 0, .int .i64 2] from (k26_mkM _ _ _ (⟨0, 2⟩ : S26) )) (Reps.c2 (show Kd.M k26 _ _ _ (⟨1, 2⟩ : S26) [.int .i64 1, .int .i64 2] from (k26_mkM _ _ _ (⟨1, 2⟩ : S26) )) (Reps.none _ _))))); intro v123 w16 ho17 hb hg_ hnew_; clear hg_ hnew_; (first | rw [← Ny122.out] at ho17 | (simp only [Int.reduceToNat] at ho17; rw [← Ny122.out] at ho17)); have n0_ := Aside0.mk (Kd.R_below (by (with_reducible repeat (first | apply Kd.R_alloc | apply Kd.R_drewN | apply Kd.R_drew)); exact HO121.out) hb); have n1_ := Aside0.mk (Kd.R_lower ho17 (below_size (by repeat (first | (with_reducible first | exact HB.out | apply below_alloc | apply pw_below_drewN | apply below_drew1) | exact HB.out)))); have n2_ := Aside0.mk (below_step (by repeat (first | (with_reducible first | exact HB.out | apply below_alloc | apply pw_below_drewN | apply below_drew1) | exact HB.out)) hb); clear HO121; clear HB; have HO121 := n0_; have HO124 := n1_; have HB := n2_; clear n0_ n1_ n2_; clear hb ho17; obtain ⟨Ao18, co18, eo18⟩ := Kd.R_slice HO121.out; subst eo18; obtain ⟨Ao19, co19, eo19⟩ := Kd.R_slice HO124.out; subst eo19) | ((with_reducible refine gate_callee (f := 15) rfl ?_); refine goesL_ (some 13) rfl rfl Try.func15 (by kernel_rfl) rfl #[.int .i64 0, .slice Ao18 y119.length co18, .slice Ao19 y122.length co19] rfl (by (try simp only [List.map_toArray, List.map_cons, List.map_nil]); first | done | rfl | (simp only [List.length_drop, List.length_take]; rfl)) ?_; (with_reducible refine (queue_Next.calls 0 _ _ y119 _ _ y122 t125 t126 t127 true _ ?side1 ?side2 ?side3 ?side4 A1.out).mono ?_); (case side1 => repeat (first | exact (Kd.R_reads' HO121.out).2.2 | (with_reducible refine Kd.C_alloc ?_ _) | (with_reducible refine Kd.C_drewN ?_ _) | (with_reducible refine Kd.C_drew ?_))); (case side2 => exact (Kd.R_reads' HO121.out).2.1); (case side3 => repeat (first | exact (Kd.R_reads' HO124.out).2.2 | (with_reducible refine Kd.C_alloc ?_ _) | (with_reducible refine Kd.C_drewN ?_ _) | (with_reducible refine Kd.C_drew ?_))); (case side4 => exact (Kd.R_reads' HO124.out).2.1); rintro e w20 ⟨v128, rfl, ho0, hb⟩; refine ⟨_, rfl, ?_⟩; have n0_ := Aside0.mk (Kd.R_below (by (with_reducible repeat (first | apply Kd.R_alloc | apply Kd.R_drewN | apply Kd.R_drew)); exact HO121.out) hb); have n1_ := Aside0.mk (Kd.R_elder' (by (with_reducible repeat (first | apply Kd.R_alloc | apply Kd.R_drewN | apply Kd.R_drew)); exact HO124.out) (Kd.R_base ho0) hb); have n2_ := Aside0.mk (Kd.R_lower (Kd.R_new' ho0 (Kd.R_lt (by (with_reducible repeat (first | apply Kd.R_alloc | apply Kd.R_drewN | apply Kd.R_drew)); exact HO124.out))) (below_size (by repeat (first | (with_reducible first | exact HB.out | apply below_alloc | apply pw_below_drewN | apply below_drew1) | exact HB.out)))); have n3_ := Aside0.mk (below_step (by repeat (first | (with_reducible first | exact HB.out | apply below_alloc | apply pw_below_drewN | apply below_drew1) | exact HB.out)) hb); clear HO121; clear HO124; clear HB; have HO121 := n0_; have HO124 := n1_; have HO129 := n2_; have HB := n3_; clear n0_ n1_ n2_ n3_; (try clear hb); (try clear hb2); (try clear hk); (try clear hi); (try clear ho0)) | ((with_reducible refine gate_dst (N := 1) rfl ?_); (try (refine gate_guard (by rfl) ?_; dsimp only)); refine box_event ?hg (N := 1) ?hd (cs := #[.int .i64 0, .int .i64 0]) (t := 26) ?hr ?_; (case hd => rfl); (case hg => rfl); (case hr => first | (go_simp; done) | (go_simp; rfl)); intro gb131 hg w21 hbox hb; have n0_ := Aside0.mk (Kd.R_below (by (with_reducible repeat (first | apply Kd.R_alloc | apply Kd.R_drewN | apply Kd.R_drew)); exact HO121.out) hb); have n1_ := Aside0.mk (Kd.R_below (Kd.R_elderB (by (with_reducible repeat (first | apply Kd.R_alloc | apply Kd.R_drewN | apply Kd.R_drew)); exact HO124.out) gb131 (Nat.le_of_eq hg.symm)) hb); have n2_ := Aside0.mk (Kd.R_below (Kd.R_elderB (by (with_reducible repeat (first | apply Kd.R_alloc | apply Kd.R_drewN | apply Kd.R_drew)); exact HO129.out) gb131 (Nat.le_of_eq hg.symm)) hb); have n3_ := Aside0.mk (below_step (by repeat (first | (with_reducible first | exact HB.out | apply below_alloc | apply pw_below_drewN | apply below_drew1) | exact HB.out)) hb); have n4_ := Aside0.mk (hbox); have n5_ := Aside0.mk ((by rw [hg]; exact (below_size (by repeat (first | (with_reducible first | exact HB.out | apply below_alloc | apply pw_below_drewN | apply below_drew1) | exact HB.out))) : w.heap.size ≤ gb131)); have n6_ := Aside0.mk ((by rw [hg]; exact (below_size (by repeat (first | (with_reducible first | exact HB.out | apply below_alloc | apply pw_below_drewN | apply below_drew1) | exact HB.out))) : w.heap.size ≤ gb131)); clear HO121; clear HO124; clear HO129; clear HB; have HO121 := n0_; have HO124 := n1_; have HO129 := n2_; have HB := n3_; have BK131 := n4_; have GW131 := n5_; have GE131 := n6_; clear n0_ n1_ n2_ n3_ n4_ n5_ n6_; clear hb hbox hg; have hcz22_0 : w21.cell? ⟨gb131, 0, none⟩ = some (.int .i64 0) := (blk_cell BK131.out 0).trans rfl; have hcz22_1 : w21.cell? ⟨gb131, 1, none⟩ = some (.int .i64 0) := (blk_cell BK131.out 1).trans rfl; have hfz22_0 := blk_frozen BK131.out 0; have hfz22_1 := blk_frozen BK131.out 1))
      go_ret
      exact ⟨by first | rfl | (simp [errW_none, errW_some] <;> rfl) | (simp [*, errW_none, errW_some] <;> rfl), by repeat (first | (with_reducible first | exact HB.out | apply below_alloc | apply pw_below_drewN | apply below_drew1 | refine below_set ?_ GE131.out) | exact HB.out)⟩
  · replace c2 := Bool.eq_false_iff.mpr c2
    subst c2
    have H1 : (some false) = some r := by rw [if_neg (show ¬ (false = true) by decide)] at H; exact H
    clear H
    have H := H1
    clear H1
    obtain rfl := Option.some.inj H
    go_enter Try.func14, Try.ntmps14
    go_wp2_with (first | ((with_reducible refine gate_dst (N := 8) rfl ?_); (try (refine gate_guard (by rfl) ?_; dsimp only)); refine Kd.R_lit k36 _ 36 ?hg (N := 8) ?hd (xs := ([(⟨2, 0, 0, 0⟩ : S36), (⟨0, 1, 0, 0⟩ : S36), (⟨1, 1, 0, 0⟩ : S36)] : List (S36))) (inner := [.int .i64 2, .int .i64 0, .int .i64 0, .int .i64 0, .int .i64 0, .int .i64 1, .int .i64 0, .int .i64 0, .int .i64 1, .int .i64 1, .int .i64 0, .int .i64 0]) (ok := fun _ => True) (okp := fun _ => True) ?hr ?hp (fun _ hk => hk) trivial (Below.refl _ _) (Nat.le_refl _) (by simp) ?_; (case hd => rfl); (case hg => rfl); (case hr => first | (go_simp; done) | (go_simp; rfl)); (case hp => exact (Reps.c4 (show Kd.M k36 _ _ _ (⟨2, 0, 0, 0⟩ : S36) [.int .i64 2, .int .i64 0, .int .i64 0, .int .i64 0] from (k36_mkM _ _ _ (⟨2, 0, 0, 0⟩ : S36) )) (Reps.c4 (show Kd.M k36 _ _ _ (⟨0, 1, 0, 0⟩ : S36) [.int .i64 0, .int .i64 1, .int .i64 0, .int .i64 0] from (k36_mkM _ _ _ (⟨0, 1, 0, 0⟩ : S36) )) (Reps.c4 (show Kd.M k36 _ _ _ (⟨1, 1, 0, 0⟩ : S36) [.int .i64 1, .int .i64 1, .int .i64 0, .int .i64 0] from (k36_mkM _ _ _ (⟨1, 1, 0, 0⟩ : S36) )) (Reps.none _ _))))); intro v120 w23 ho24 hb hg_ hnew_; clear hg_ hnew_; (first | rw [← Ny119.out] at ho24 | (simp only [Int.reduceToNat] at ho24; rw [← Ny119.out] at ho24)); have n0_ := Aside0.mk (Kd.R_lower ho24 (below_size (by repeat (first | (with_reducible first | exact HB.out | apply below_alloc | apply pw_below_drewN | apply below_drew1) | exact HB.out)))); have n1_ := Aside0.mk (below_step (by repeat (first | (with_reducible first | exact HB.out | apply below_alloc | apply pw_below_drewN | apply below_drew1) | exact HB.out)) hb); clear HB; have HO121 := n0_; have HB := n1_; clear n0_ n1_; clear hb ho24) | ((with_reducible refine gate_dst (N := 12) rfl ?_); (try (refine gate_guard (by rfl) ?_; dsimp only)); refine Kd.R_lit k26 _ 26 ?hg (N := 12) ?hd (xs := ([(⟨0, 1⟩ : S26), (⟨0, 2⟩ : S26), (⟨1, 2⟩ : S26)] : List (S26))) (inner := [.int .i64 0, .int .i64 1, .int .i64 0, .int .i64 2, .int .i64 1, .int .i64 2]) (ok := fun _ => True) (okp := fun _ => True) ?hr ?hp (fun _ hk => hk) trivial (Below.refl _ _) (Nat.le_refl _) (by simp) ?_; (case hd => rfl); (case hg => rfl); (case hr => first | (go_simp; done) | (go_simp; rfl)); (case hp => exact (Reps.c2 (show Kd.M k26 _ _ _ (⟨0, 1⟩ : S26) [.int .i64 0, .int .i64 1] from (k26_mkM _ _ _ (⟨0, 1⟩ : S26) )) (Reps.c2 (show Kd.M k26 _ _ _ (⟨0, 2⟩ : S26) [.int .i64 0, .int .i64 2] from (k26_mkM _ _ _ (⟨0, 2⟩ : S26) )) (Reps.c2 (show Kd.M k26 _ _ _ (⟨1, 2⟩ : S26) [.int .i64 1, .int .i64 2] from (k26_mkM _ _ _ (⟨1, 2⟩ : S26) )) (Reps.none _ _))))); intro v123 w25 ho26 hb hg_ hnew_; clear hg_ hnew_; (first | rw [← Ny122.out] at ho26 | (simp only [Int.reduceToNat] at ho26; rw [← Ny122.out] at ho26)); have n0_ := Aside0.mk (Kd.R_below (by (with_reducible repeat (first | apply Kd.R_alloc | apply Kd.R_drewN | apply Kd.R_drew)); exact HO121.out) hb); have n1_ := Aside0.mk (Kd.R_lower ho26 (below_size (by repeat (first | (with_reducible first | exact HB.out | apply below_alloc | apply pw_below_drewN | apply below_drew1) | exact HB.out)))); have n2_ := Aside0.mk (below_step (by repeat (first | (with_reducible first | exact HB.out | apply below_alloc | apply pw_below_drewN | apply below_drew1) | exact HB.out)) hb); clear HO121; clear HB; have HO121 := n0_; have HO124 := n1_; have HB := n2_; clear n0_ n1_ n2_; clear hb ho26; obtain ⟨Ao27, co27, eo27⟩ := Kd.R_slice HO121.out; subst eo27; obtain ⟨Ao28, co28, eo28⟩ := Kd.R_slice HO124.out; subst eo28) | ((with_reducible refine gate_callee (f := 15) rfl ?_); refine goesL_ (some 13) rfl rfl Try.func15 (by kernel_rfl) rfl #[.int .i64 0, .slice Ao27 y119.length co27, .slice Ao28 y122.length co28] rfl (by (try simp only [List.map_toArray, List.map_cons, List.map_nil]); first | done | rfl | (simp only [List.length_drop, List.length_take]; rfl)) ?_; (with_reducible refine (queue_Next.calls 0 _ _ y119 _ _ y122 t125 t126 t127 false _ ?side1 ?side2 ?side3 ?side4 A1.out).mono ?_); (case side1 => repeat (first | exact (Kd.R_reads' HO121.out).2.2 | (with_reducible refine Kd.C_alloc ?_ _) | (with_reducible refine Kd.C_drewN ?_ _) | (with_reducible refine Kd.C_drew ?_))); (case side2 => exact (Kd.R_reads' HO121.out).2.1); (case side3 => repeat (first | exact (Kd.R_reads' HO124.out).2.2 | (with_reducible refine Kd.C_alloc ?_ _) | (with_reducible refine Kd.C_drewN ?_ _) | (with_reducible refine Kd.C_drew ?_))); (case side4 => exact (Kd.R_reads' HO124.out).2.1); rintro e w29 ⟨v128, rfl, ho0, hb⟩; refine ⟨_, rfl, ?_⟩; have n0_ := Aside0.mk (Kd.R_below (by (with_reducible repeat (first | apply Kd.R_alloc | apply Kd.R_drewN | apply Kd.R_drew)); exact HO121.out) hb); have n1_ := Aside0.mk (Kd.R_elder' (by (with_reducible repeat (first | apply Kd.R_alloc | apply Kd.R_drewN | apply Kd.R_drew)); exact HO124.out) (Kd.R_base ho0) hb); have n2_ := Aside0.mk (Kd.R_lower (Kd.R_new' ho0 (Kd.R_lt (by (with_reducible repeat (first | apply Kd.R_alloc | apply Kd.R_drewN | apply Kd.R_drew)); exact HO124.out))) (below_size (by repeat (first | (with_reducible first | exact HB.out | apply below_alloc | apply pw_below_drewN | apply below_drew1) | exact HB.out)))); have n3_ := Aside0.mk (below_step (by repeat (first | (with_reducible first | exact HB.out | apply below_alloc | apply pw_below_drewN | apply below_drew1) | exact HB.out)) hb); clear HO121; clear HO124; clear HB; have HO121 := n0_; have HO124 := n1_; have HO129 := n2_; have HB := n3_; clear n0_ n1_ n2_ n3_; (try clear hb); (try clear hb2); (try clear hk); (try clear hi); (try clear ho0)) | ((with_reducible refine gate_dst (N := 1) rfl ?_); (try (refine gate_guard (by rfl) ?_; dsimp only)); refine box_event ?hg (N := 1) ?hd (cs := #[.int .i64 0, .int .i64 0]) (t := 26) ?hr ?_; (case hd => rfl); (case hg => rfl); (case hr => first | (go_simp; done) | (go_simp; rfl)); intro gb131 hg w30 hbox hb; have n0_ := Aside0.mk (Kd.R_below (by (with_reducible repeat (first | apply Kd.R_alloc | apply Kd.R_drewN | apply Kd.R_drew)); exact HO121.out) hb); have n1_ := Aside0.mk (Kd.R_below (Kd.R_elderB (by (with_reducible repeat (first | apply Kd.R_alloc | apply Kd.R_drewN | apply Kd.R_drew)); exact HO124.out) gb131 (Nat.le_of_eq hg.symm)) hb); have n2_ := Aside0.mk (Kd.R_below (Kd.R_elderB (by (with_reducible repeat (first | apply Kd.R_alloc | apply Kd.R_drewN | apply Kd.R_drew)); exact HO129.out) gb131 (Nat.le_of_eq hg.symm)) hb); have n3_ := Aside0.mk (below_step (by repeat (first | (with_reducible first | exact HB.out | apply below_alloc | apply pw_below_drewN | apply below_drew1) | exact HB.out)) hb); have n4_ := Aside0.mk (hbox); have n5_ := Aside0.mk ((by rw [hg]; exact (below_size (by repeat (first | (with_reducible first | exact HB.out | apply below_alloc | apply pw_below_drewN | apply below_drew1) | exact HB.out))) : w.heap.size ≤ gb131)); have n6_ := Aside0.mk ((by rw [hg]; exact (below_size (by repeat (first | (with_reducible first | exact HB.out | apply below_alloc | apply pw_below_drewN | apply below_drew1) | exact HB.out))) : w.heap.size ≤ gb131)); clear HO121; clear HO124; clear HO129; clear HB; have HO121 := n0_; have HO124 := n1_; have HO129 := n2_; have HB := n3_; have BK131 := n4_; have GW131 := n5_; have GE131 := n6_; clear n0_ n1_ n2_ n3_ n4_ n5_ n6_; clear hb hbox hg; have hcz31_0 : w30.cell? ⟨gb131, 0, none⟩ = some (.int .i64 0) := (blk_cell BK131.out 0).trans rfl; have hcz31_1 : w30.cell? ⟨gb131, 1, none⟩ = some (.int .i64 0) := (blk_cell BK131.out 1).trans rfl; have hfz31_0 := blk_frozen BK131.out 0; have hfz31_1 := blk_frozen BK131.out 1))
    go_ret
    exact ⟨by first | rfl | (simp [errW_none, errW_some] <;> rfl) | (simp [*, errW_none, errW_some] <;> rfl), by repeat (first | (with_reducible first | exact HB.out | apply below_alloc | apply pw_below_drewN | apply below_drew1 | refine below_set ?_ GE131.out) | exact HB.out)⟩

/-! ### queue_With: function 20 -/
def queue_With.l0 : Nat → Int → List (S26) → Int → Int → Option ((List (S26)))
  | 0, _, _, _, _ => none
  | k + 1, x0, x1, x11, x12 => if x12 < x11 then (if x1.length < 8796093022208 then (queue_With.l0 k x0 (x1 ++ [(⟨x12, x0⟩ : S26)]) x11 (wrap64 (x12 + 1))) else (none)) else (some x1)
def queue_With.f (k : Nat) (a0 : Int) (l1 : List (S26)) : Option ((List (S26))) := (api_Pair_52.f l1).bind fun t132 => (if a0 < 24 then (queue_With.l0 k a0 t132 (mx a0 0) 0) else (some t132))
theorem queue_With.mono_l : ∀ k, (∀ y0 y1 y2 y3, LeO (queue_With.l0 k y0 y1 y2 y3) (queue_With.l0 (k + 1) y0 y1 y2 y3))
  | 0 => fun _ _ _ _ r h => by simp [queue_With.l0] at h
  | k + 1 => by
    have ih0 := queue_With.mono_l k
    · intro y0 y1 y2 y3
      unfold queue_With.l0
      repeat' first
      | (with_reducible exact ih0 _ _ _ _)
      | (with_reducible exact LeO.refl _)
      | (with_reducible exact LeO.none _)
      | (with_reducible refine LeO.ite ?_ ?_)
      | (with_reducible refine LeO.bind ?_ (fun _ => ?_))
      | exact ih0 _ _ _ _
      | exact LeO.none _
      | refine LeO.ite ?_ ?_
      | refine LeO.bind ?_ (fun _ => ?_)
theorem queue_With.mono : ∀ a0 a1 k, LeO (queue_With.f k a0 a1) (queue_With.f (k + 1) a0 a1) := by
  intro a0 a1 k
  have ih0 := queue_With.mono_l k
  unfold queue_With.f
  repeat' first
      | (with_reducible exact ih0 _ _ _ _)
      | (with_reducible exact LeO.refl _)
      | (with_reducible exact LeO.none _)
      | (with_reducible refine LeO.ite ?_ ?_)
      | (with_reducible refine LeO.bind ?_ (fun _ => ?_))
      | exact ih0 _ _ _ _
      | exact LeO.none _
      | refine LeO.ite ?_ ?_
      | refine LeO.bind ?_ (fun _ => ?_)
set_option maxHeartbeats 8000000 in
set_option maxRecDepth 100000 in
theorem queue_With.calls (k : Nat) (a0 : Int) (A1 : Option Addr) (c1 : Nat) (l1 : List (S26)) (r : List (S26)) (w : World) (hr1 : Kd.C k26 w A1 l1.length l1) (hc1 : l1.length ≤ c1) (h : queue_With.f k a0 l1 = some r) :
    Calls Try.prog 20 #[.int .i64 a0, .slice A1 l1.length c1] w fun e w' => ∃ v0_ : Value, e = .returned (v0_) ∧ Kd.R k26 26 w' w.heap.size (fun _ => True) v0_ r ∧ Below w.heap.size w w' := by
  have hu26 := Try.underlying26
  have HR1 := Aside0.mk hr1
  have HC1 := Aside0.mk hc1
  clear hr1 hc1
  have HB := Aside0.mk (Below.refl w.heap.size w)
  have H : ((api_Pair_52.f l1).bind fun t132 => (if a0 < 24 then (queue_With.l0 k a0 t132 (mx a0 0) 0) else (some t132))) = some r := h
  clear h
  replace H := Option.bind_eq_some_iff.mp H
  obtain ⟨t132, A30, H⟩ := H
  replace H : (if a0 < 24 then (queue_With.l0 k a0 t132 (mx a0 0) 0) else (some t132)) = some r := H
  have A3 := Aside0.mk A30
  clear A30
  by_cases c4 : a0 < 24
  · rw [if_pos c4] at H
    have c4b0 : decide (a0 < 24) = true := decide_eq_true c4
    clear c4
    obtain ⟨ji5, hji5⟩ : ∃ j_ : Int, (mx a0 0) = j_ := ⟨_, rfl⟩
    replace H : (queue_With.l0 k a0 t132 ji5 0) = some r := by first | (rw [hji5] at H; exact H) | (simp only [hji5] at H ⊢; exact H)
    (try rw [hji5] at A3)
    (try (have hji5l : 0 ≤ ji5 := by (rw [← hji5]; unfold mx; (repeat' split) <;> omega)))
    (try (have hji5m : 0 ≤ ji5 := by omega))
    have hji5_ : (if a0 < 0 then 0 else a0) = ji5 := hji5
    have H' := Aside0.mk H
    clear H
    go_enter Try.func20, Try.ntmps20
    go_wp2_with (first | ((with_reducible refine gate_callee (f := 52) rfl ?_); refine goesL_ (some 7) rfl rfl Try.func52 (by kernel_rfl) rfl #[.slice A1 l1.length c1] rfl (by (try simp only [List.map_toArray, List.map_cons, List.map_nil]); first | done | rfl | (simp only [List.length_drop, List.length_take]; rfl)) ?_; (with_reducible refine (api_Pair_52.calls _ _ l1 t132 _ ?side1 ?side2 A3.out).mono ?_); (case side1 => repeat (first | exact HR1.out | (with_reducible refine Kd.C_alloc ?_ _) | (with_reducible refine Kd.C_drewN ?_ _) | (with_reducible refine Kd.C_drew ?_))); (case side2 => exact HC1.out); rintro e w6 ⟨v133, rfl, ho0, hb⟩; refine ⟨_, rfl, ?_⟩; have n0_ := Aside0.mk (Kd.R_lower ho0 (below_size (by repeat (first | (with_reducible first | exact HB.out | apply below_alloc | apply pw_below_drewN | apply below_drew1) | exact HB.out)))); have n1_ := Aside0.mk (below_step (by repeat (first | (with_reducible first | exact HB.out | apply below_alloc | apply pw_below_drewN | apply below_drew1) | exact HB.out)) hb); clear HB; have HO134 := n0_; have HB := n1_; clear n0_ n1_; (try clear hb); (try clear hb2); (try clear hk); (try clear hi); (try clear ho0)))
    go_loopg [1, 12] k (fun kq v1 v12 w' => ∃ (x1_1 : List (S26)) (x12_1 : Int), v12 = .int .i64 x12_1 ∧ Aside0 (queue_With.l0 kq a0 x1_1 ji5 x12_1 = some r) ∧ Aside0 (kq ≤ k) ∧ Aside0 (Kd.R k26 26 w' w.heap.size (fun _ => True) v1 x1_1) ∧ Aside0 (Below w.heap.size w w'))
    case atStart => exact ⟨(t132), (0), (by first | rfl | (simp; done) | (simp [*]; done)), H', ⟨Nat.le_refl _⟩, ⟨by (with_reducible repeat (first | apply Kd.R_alloc | apply Kd.R_drewN | apply Kd.R_drew)); exact HO134.out⟩, ⟨by repeat (first | (with_reducible first | exact HB.out | apply below_alloc | apply pw_below_drewN | apply below_drew1) | exact HB.out)⟩⟩
    case round =>
      clear H'
      try clear c1
      try clear c2
      try clear p2
      try clear c4
      try clear c4b0
      try clear c5
      obtain ⟨x1_1, x12_1, rfl, HA, HK1, HO_1, HB⟩ := hrel
      cases gk with
      | zero => exact absurd HA.out (by simp [queue_With.l0])
      | succ k1 =>
        have H := HA.out
        clear HA
        simp only [queue_With.l0] at H
        by_cases c7 : x12_1 < ji5
        · rw [if_pos c7] at H
          have c7b0 : decide (x12_1 < ji5) = true := decide_eq_true c7
          clear c7
          by_cases c8 : x1_1.length < 8796093022208
          · rw [if_pos c8] at H
            have LMc8 := Aside0.mk c8
            clear c8
            obtain ⟨y135, hy135⟩ : ∃ y_ : List (S26), y_ = (x1_1 ++ [(⟨x12_1, a0⟩ : S26)]) := ⟨_, rfl⟩
            replace H : (queue_With.l0 k1 a0 y135 ji5 (wrap64 (x12_1 + 1))) = some r := by first | (rw [hy135]; with_reducible exact H) | (have H2_ := (Option.bind_some _ _).symm.trans H; rw [hy135]; with_reducible exact H2_) | (have H2_ := (Option.bind_some _ _).symm.trans H; with_reducible exact H2_) | with_reducible exact H | (rw [hy135]; exact H) | exact H
            have Ny135 := Aside0.mk hy135
            clear hy135
            have H' := Aside0.mk H
            clear H
            go_wp2_with (first | ((with_reducible refine gate_builtin (b := .append) (xs := #[.tmp 15, .tmp 19]) rfl ?_); at_builtin; refine Kd.R_append k26 (w0 := w) w.heap.size rfl (.tmp 15) (.tmp 19) 23 26 (.agg #[(.int .i64 0), (.int .i64 0)]) 16 rfl Try.underlying23 info26 rfl (by decide) (by omega) u1 x1_1 (⟨x12_1, a0⟩ : S26) [.int .i64 x12_1, .int .i64 a0] (fun _ => True) (fun _ => False) rfl rfl ?aP (fun _ hk => hk.elim) ?aF ?aO ?aB ?aS ?aL ?_; (case aP => exact k26_mkM _ _ _ (⟨x12_1, a0⟩ : S26)); (case aB => exact (by repeat (first | (with_reducible first | exact HB.out | apply below_alloc | apply pw_below_drewN | apply below_drew1) | exact HB.out))); (case aF => exact (fun _ _ => trivial)); (case aO => exact (by (with_reducible repeat (first | apply Kd.R_alloc | apply Kd.R_drewN | apply Kd.R_drew)); exact HO_1.out)); (case aS => exact (below_size (by repeat (first | (with_reducible first | exact HB.out | apply below_alloc | apply pw_below_drewN | apply below_drew1) | exact HB.out)))); (case aL => have := LMc8.out; omega); intro v136 w9 ho hb hg hat; rw [← Ny135.out] at ho; have n0_ := Aside0.mk (hb); have n1_ := Aside0.mk (ho); clear HB; clear HO_1; have HB := n0_; have HO137 := n1_; clear n0_ n1_; clear ho hb hg hat))
            go_roundg k1
            case measure => have := HK1.out; omega
            case rel => exact ⟨(y135), (wrap64 (x12_1 + 1)), (by first | rfl | (simp; done) | (simp [*]; done)), H', ⟨by have := HK1.out; omega⟩, ⟨by (with_reducible repeat (first | apply Kd.R_alloc | apply Kd.R_drewN | apply Kd.R_drew)); exact HO137.out⟩, ⟨by repeat (first | (with_reducible first | exact HB.out | apply below_alloc | apply pw_below_drewN | apply below_drew1) | exact HB.out)⟩⟩
          · rw [if_neg c8] at H
            exact absurd H (by simp)
        · rw [if_neg c7] at H
          have c7b0 : decide (x12_1 < ji5) = false := decide_eq_false c7
          clear c7
          obtain rfl := Option.some.inj H
          go_wp2
          go_ret
          exact ⟨_, by first | rfl | (simp [errW_none, errW_some] <;> rfl) | (simp only [← hji5]; first | rfl | (simp [errW_none, errW_some] <;> rfl)) | (simp [*, errW_none, errW_some] <;> rfl), by (with_reducible repeat (first | apply Kd.R_alloc | apply Kd.R_drewN | apply Kd.R_drew)); exact HO_1.out, by repeat (first | (with_reducible first | exact HB.out | apply below_alloc | apply pw_below_drewN | apply below_drew1) | exact HB.out)⟩
  · rw [if_neg c4] at H
    have c4b0 : decide (a0 < 24) = false := decide_eq_false c4
    clear c4
    obtain rfl := Option.some.inj H
    go_enter Try.func20, Try.ntmps20
    go_wp2_with (first | ((with_reducible refine gate_callee (f := 52) rfl ?_); refine goesL_ (some 7) rfl rfl Try.func52 (by kernel_rfl) rfl #[.slice A1 l1.length c1] rfl (by (try simp only [List.map_toArray, List.map_cons, List.map_nil]); first | done | rfl | (simp only [List.length_drop, List.length_take]; rfl)) ?_; (with_reducible refine (api_Pair_52.calls _ _ l1 t132 _ ?side1 ?side2 A3.out).mono ?_); (case side1 => repeat (first | exact HR1.out | (with_reducible refine Kd.C_alloc ?_ _) | (with_reducible refine Kd.C_drewN ?_ _) | (with_reducible refine Kd.C_drew ?_))); (case side2 => exact HC1.out); rintro e w10 ⟨v133, rfl, ho0, hb⟩; refine ⟨_, rfl, ?_⟩; have n0_ := Aside0.mk (Kd.R_lower ho0 (below_size (by repeat (first | (with_reducible first | exact HB.out | apply below_alloc | apply pw_below_drewN | apply below_drew1) | exact HB.out)))); have n1_ := Aside0.mk (below_step (by repeat (first | (with_reducible first | exact HB.out | apply below_alloc | apply pw_below_drewN | apply below_drew1) | exact HB.out)) hb); clear HB; have HO134 := n0_; have HB := n1_; clear n0_ n1_; (try clear hb); (try clear hb2); (try clear hk); (try clear hi); (try clear ho0)))
    go_ret
    exact ⟨_, by first | rfl | (simp [errW_none, errW_some] <;> rfl) | (simp [*, errW_none, errW_some] <;> rfl), by (with_reducible repeat (first | apply Kd.R_alloc | apply Kd.R_drewN | apply Kd.R_drew)); exact HO134.out, by repeat (first | (with_reducible first | exact HB.out | apply below_alloc | apply pw_below_drewN | apply below_drew1) | exact HB.out)⟩

/-! ### syzygyref08_May: function 54 -/
theorem cells4 {g : Nat} {x0 x1 x2 x3 : Int} {t : TypeId} {w : World} (hb : w.heap[g]? = some (.cells #[.int .i64 x0, .int .i64 x1, .int .i64 x2, .int .i64 x3] t (0, 0))) : w.cell? ⟨g, 0, none⟩ = some (.int .i64 x0) ∧ w.cell? ⟨g, 1, none⟩ = some (.int .i64 x1) ∧ w.cell? ⟨g, 2, none⟩ = some (.int .i64 x2) ∧ w.cell? ⟨g, 3, none⟩ = some (.int .i64 x3) := ⟨blk_cell hb 0, blk_cell hb 1, blk_cell hb 2, blk_cell hb 3⟩
def syzygyref08_May.v (x0 x1 x2 x3 : Int) : Bool := cond (decide (x0 < 0)) false (cond (decide (x0 > 40)) false (cond (decide (x1 < 0)) false (cond (decide (x1 > 40)) false (cond (decide (x2 < 0)) false (cond (decide (x2 > 40)) false (cond (decide (x3 < 0)) false (cond (decide (x3 > 40)) false (true))))))))
set_option maxHeartbeats 2000000 in
set_option maxRecDepth 100000 in
theorem syzygyref08_May.calls_ (x0 x1 x2 x3 : Int) (w : World) : Calls Try.prog 54 #[.agg #[.int .i64 x0, .int .i64 x1, .int .i64 x2, .int .i64 x3]] w fun e w' => e = .returned (.bool (syzygyref08_May.v x0 x1 x2 x3)) ∧ Below w.heap.size w w' := by
  have HB := Aside0.mk (blk_new w (.cells #[.int .i64 x0, .int .i64 x1, .int .i64 x2, .int .i64 x3] 36))
  have HD := Aside0.mk (below_alloc (Below.refl _ w) (.cells #[.int .i64 x0, .int .i64 x1, .int .i64 x2, .int .i64 x3] 36))
  cases n0 : decide (x0 < 0) with
  | true =>
    have e_ : syzygyref08_May.v x0 x1 x2 x3 = false := by unfold syzygyref08_May.v; rw [n0]; rfl
    rw [e_]
    clear e_
    go_enter Try.func54, Try.ntmps54
    go_wp2
    generalize w.alloc (.cells #[.int .i64 x0, .int .i64 x1, .int .i64 x2, .int .i64 x3] 36) = v0 at HB HD ⊢
    have c0 : v0.cell? ⟨w.heap.size, 0, none⟩ = some (.int .i64 x0) := (blk_cell HB.out 0).trans rfl
    have c1 : v0.cell? ⟨w.heap.size, 1, none⟩ = some (.int .i64 x1) := (blk_cell HB.out 1).trans rfl
    have c2 : v0.cell? ⟨w.heap.size, 2, none⟩ = some (.int .i64 x2) := (blk_cell HB.out 2).trans rfl
    have c3 : v0.cell? ⟨w.heap.size, 3, none⟩ = some (.int .i64 x3) := (blk_cell HB.out 3).trans rfl
    refine wp_loop_rounds 1 ?_
    rw [rounds_succ]
    go_wp2
    go_ret
    exact ⟨rfl, HD.out⟩
  | false =>
    cases b0 : decide (x0 > 40) with
    | true =>
      have e_ : syzygyref08_May.v x0 x1 x2 x3 = false := by unfold syzygyref08_May.v; rw [n0, b0]; rfl
      rw [e_]
      clear e_
      go_enter Try.func54, Try.ntmps54
      go_wp2
      generalize w.alloc (.cells #[.int .i64 x0, .int .i64 x1, .int .i64 x2, .int .i64 x3] 36) = v0 at HB HD ⊢
      have c0 : v0.cell? ⟨w.heap.size, 0, none⟩ = some (.int .i64 x0) := (blk_cell HB.out 0).trans rfl
      have c1 : v0.cell? ⟨w.heap.size, 1, none⟩ = some (.int .i64 x1) := (blk_cell HB.out 1).trans rfl
      have c2 : v0.cell? ⟨w.heap.size, 2, none⟩ = some (.int .i64 x2) := (blk_cell HB.out 2).trans rfl
      have c3 : v0.cell? ⟨w.heap.size, 3, none⟩ = some (.int .i64 x3) := (blk_cell HB.out 3).trans rfl
      refine wp_loop_rounds 1 ?_
      rw [rounds_succ]
      go_wp2
      go_ret
      exact ⟨rfl, HD.out⟩
    | false =>
      cases n1 : decide (x1 < 0) with
      | true =>
        have e_ : syzygyref08_May.v x0 x1 x2 x3 = false := by unfold syzygyref08_May.v; rw [n0, b0, n1]; rfl
        rw [e_]
        clear e_
        go_enter Try.func54, Try.ntmps54
        go_wp2
        generalize w.alloc (.cells #[.int .i64 x0, .int .i64 x1, .int .i64 x2, .int .i64 x3] 36) = v0 at HB HD ⊢
        have c0 : v0.cell? ⟨w.heap.size, 0, none⟩ = some (.int .i64 x0) := (blk_cell HB.out 0).trans rfl
        have c1 : v0.cell? ⟨w.heap.size, 1, none⟩ = some (.int .i64 x1) := (blk_cell HB.out 1).trans rfl
        have c2 : v0.cell? ⟨w.heap.size, 2, none⟩ = some (.int .i64 x2) := (blk_cell HB.out 2).trans rfl
        have c3 : v0.cell? ⟨w.heap.size, 3, none⟩ = some (.int .i64 x3) := (blk_cell HB.out 3).trans rfl
        refine wp_loop_rounds 2 ?_
        rw [rounds_succ]
        go_wp2
        rw [rounds_succ]
        go_wp2
        go_ret
        exact ⟨rfl, HD.out⟩
      | false =>
        cases b1 : decide (x1 > 40) with
        | true =>
          have e_ : syzygyref08_May.v x0 x1 x2 x3 = false := by unfold syzygyref08_May.v; rw [n0, b0, n1, b1]; rfl
          rw [e_]
          clear e_
          go_enter Try.func54, Try.ntmps54
          go_wp2
          generalize w.alloc (.cells #[.int .i64 x0, .int .i64 x1, .int .i64 x2, .int .i64 x3] 36) = v0 at HB HD ⊢
          have c0 : v0.cell? ⟨w.heap.size, 0, none⟩ = some (.int .i64 x0) := (blk_cell HB.out 0).trans rfl
          have c1 : v0.cell? ⟨w.heap.size, 1, none⟩ = some (.int .i64 x1) := (blk_cell HB.out 1).trans rfl
          have c2 : v0.cell? ⟨w.heap.size, 2, none⟩ = some (.int .i64 x2) := (blk_cell HB.out 2).trans rfl
          have c3 : v0.cell? ⟨w.heap.size, 3, none⟩ = some (.int .i64 x3) := (blk_cell HB.out 3).trans rfl
          refine wp_loop_rounds 2 ?_
          rw [rounds_succ]
          go_wp2
          rw [rounds_succ]
          go_wp2
          go_ret
          exact ⟨rfl, HD.out⟩
        | false =>
          cases n2 : decide (x2 < 0) with
          | true =>
            have e_ : syzygyref08_May.v x0 x1 x2 x3 = false := by unfold syzygyref08_May.v; rw [n0, b0, n1, b1, n2]; rfl
            rw [e_]
            clear e_
            go_enter Try.func54, Try.ntmps54
            go_wp2
            generalize w.alloc (.cells #[.int .i64 x0, .int .i64 x1, .int .i64 x2, .int .i64 x3] 36) = v0 at HB HD ⊢
            have c0 : v0.cell? ⟨w.heap.size, 0, none⟩ = some (.int .i64 x0) := (blk_cell HB.out 0).trans rfl
            have c1 : v0.cell? ⟨w.heap.size, 1, none⟩ = some (.int .i64 x1) := (blk_cell HB.out 1).trans rfl
            have c2 : v0.cell? ⟨w.heap.size, 2, none⟩ = some (.int .i64 x2) := (blk_cell HB.out 2).trans rfl
            have c3 : v0.cell? ⟨w.heap.size, 3, none⟩ = some (.int .i64 x3) := (blk_cell HB.out 3).trans rfl
            refine wp_loop_rounds 3 ?_
            rw [rounds_succ]
            go_wp2
            rw [rounds_succ]
            go_wp2
            rw [rounds_succ]
            go_wp2
            go_ret
            exact ⟨rfl, HD.out⟩
          | false =>
            cases b2 : decide (x2 > 40) with
            | true =>
              have e_ : syzygyref08_May.v x0 x1 x2 x3 = false := by unfold syzygyref08_May.v; rw [n0, b0, n1, b1, n2, b2]; rfl
              rw [e_]
              clear e_
              go_enter Try.func54, Try.ntmps54
              go_wp2
              generalize w.alloc (.cells #[.int .i64 x0, .int .i64 x1, .int .i64 x2, .int .i64 x3] 36) = v0 at HB HD ⊢
              have c0 : v0.cell? ⟨w.heap.size, 0, none⟩ = some (.int .i64 x0) := (blk_cell HB.out 0).trans rfl
              have c1 : v0.cell? ⟨w.heap.size, 1, none⟩ = some (.int .i64 x1) := (blk_cell HB.out 1).trans rfl
              have c2 : v0.cell? ⟨w.heap.size, 2, none⟩ = some (.int .i64 x2) := (blk_cell HB.out 2).trans rfl
              have c3 : v0.cell? ⟨w.heap.size, 3, none⟩ = some (.int .i64 x3) := (blk_cell HB.out 3).trans rfl
              refine wp_loop_rounds 3 ?_
              rw [rounds_succ]
              go_wp2
              rw [rounds_succ]
              go_wp2
              rw [rounds_succ]
              go_wp2
              go_ret
              exact ⟨rfl, HD.out⟩
            | false =>
              cases n3 : decide (x3 < 0) with
              | true =>
                have e_ : syzygyref08_May.v x0 x1 x2 x3 = false := by unfold syzygyref08_May.v; rw [n0, b0, n1, b1, n2, b2, n3]; rfl
                rw [e_]
                clear e_
                go_enter Try.func54, Try.ntmps54
                go_wp2
                generalize w.alloc (.cells #[.int .i64 x0, .int .i64 x1, .int .i64 x2, .int .i64 x3] 36) = v0 at HB HD ⊢
                have c0 : v0.cell? ⟨w.heap.size, 0, none⟩ = some (.int .i64 x0) := (blk_cell HB.out 0).trans rfl
                have c1 : v0.cell? ⟨w.heap.size, 1, none⟩ = some (.int .i64 x1) := (blk_cell HB.out 1).trans rfl
                have c2 : v0.cell? ⟨w.heap.size, 2, none⟩ = some (.int .i64 x2) := (blk_cell HB.out 2).trans rfl
                have c3 : v0.cell? ⟨w.heap.size, 3, none⟩ = some (.int .i64 x3) := (blk_cell HB.out 3).trans rfl
                refine wp_loop_rounds 4 ?_
                rw [rounds_succ]
                go_wp2
                rw [rounds_succ]
                go_wp2
                rw [rounds_succ]
                go_wp2
                rw [rounds_succ]
                go_wp2
                go_ret
                exact ⟨rfl, HD.out⟩
              | false =>
                cases b3 : decide (x3 > 40) with
                | true =>
                  have e_ : syzygyref08_May.v x0 x1 x2 x3 = false := by unfold syzygyref08_May.v; rw [n0, b0, n1, b1, n2, b2, n3, b3]; rfl
                  rw [e_]
                  clear e_
                  go_enter Try.func54, Try.ntmps54
                  go_wp2
                  generalize w.alloc (.cells #[.int .i64 x0, .int .i64 x1, .int .i64 x2, .int .i64 x3] 36) = v0 at HB HD ⊢
                  have c0 : v0.cell? ⟨w.heap.size, 0, none⟩ = some (.int .i64 x0) := (blk_cell HB.out 0).trans rfl
                  have c1 : v0.cell? ⟨w.heap.size, 1, none⟩ = some (.int .i64 x1) := (blk_cell HB.out 1).trans rfl
                  have c2 : v0.cell? ⟨w.heap.size, 2, none⟩ = some (.int .i64 x2) := (blk_cell HB.out 2).trans rfl
                  have c3 : v0.cell? ⟨w.heap.size, 3, none⟩ = some (.int .i64 x3) := (blk_cell HB.out 3).trans rfl
                  refine wp_loop_rounds 4 ?_
                  rw [rounds_succ]
                  go_wp2
                  rw [rounds_succ]
                  go_wp2
                  rw [rounds_succ]
                  go_wp2
                  rw [rounds_succ]
                  go_wp2
                  go_ret
                  exact ⟨rfl, HD.out⟩
                | false =>
                  have e_ : syzygyref08_May.v x0 x1 x2 x3 = true := by unfold syzygyref08_May.v; rw [n0, b0, n1, b1, n2, b2, n3, b3]; rfl
                  rw [e_]
                  clear e_
                  go_enter Try.func54, Try.ntmps54
                  go_wp2
                  generalize w.alloc (.cells #[.int .i64 x0, .int .i64 x1, .int .i64 x2, .int .i64 x3] 36) = v0 at HB HD ⊢
                  have c0 : v0.cell? ⟨w.heap.size, 0, none⟩ = some (.int .i64 x0) := (blk_cell HB.out 0).trans rfl
                  have c1 : v0.cell? ⟨w.heap.size, 1, none⟩ = some (.int .i64 x1) := (blk_cell HB.out 1).trans rfl
                  have c2 : v0.cell? ⟨w.heap.size, 2, none⟩ = some (.int .i64 x2) := (blk_cell HB.out 2).trans rfl
                  have c3 : v0.cell? ⟨w.heap.size, 3, none⟩ = some (.int .i64 x3) := (blk_cell HB.out 3).trans rfl
                  refine wp_loop_rounds 5 ?_
                  rw [rounds_succ]
                  go_wp2
                  rw [rounds_succ]
                  go_wp2
                  rw [rounds_succ]
                  go_wp2
                  rw [rounds_succ]
                  go_wp2
                  rw [rounds_succ]
                  go_wp2
                  go_ret
                  exact ⟨rfl, HD.out⟩
def syzygyref08_May.f (x0 x1 x2 x3 : Int) : Option Bool := some (syzygyref08_May.v x0 x1 x2 x3)
theorem syzygyref08_May.calls (x0 x1 x2 x3 : Int) (r : Bool) (w : World) (h : syzygyref08_May.f x0 x1 x2 x3 = some r) :
    Calls Try.prog 54 #[.agg #[.int .i64 x0, .int .i64 x1, .int .i64 x2, .int .i64 x3]] w fun e w' => e = .returned (.bool r) ∧ Below w.heap.size w w' := by
  obtain rfl := Option.some.inj h
  exact syzygyref08_May.calls_ x0 x1 x2 x3 w

/-! ### syzygyref08_Lcm: function 22 -/
section
theorem max2_mx8 (k k' : IntKind) (x y : Int) : Builtin.max2 (.int k x) (.int k' y) = pure (.int k (mx x y)) := max2_int k k' x y
attribute [local go_sem high] max2_mx8
def syzygyref08_Lcm.v (x0 x1 x2 x3 y0 y1 y2 y3 : Int) : Int × Int × Int × Int := cond (syzygyref08_May.v x0 x1 x2 x3) (cond (syzygyref08_May.v y0 y1 y2 y3) (mx x0 y0, mx x1 y1, mx x2 y2, mx x3 y3) (0, 0, 0, 0)) (0, 0, 0, 0)
set_option maxHeartbeats 4000000 in
set_option maxRecDepth 100000 in
theorem syzygyref08_Lcm.calls_ (x0 x1 x2 x3 y0 y1 y2 y3 : Int) (w : World) : Calls Try.prog 22 #[.agg #[.int .i64 x0, .int .i64 x1, .int .i64 x2, .int .i64 x3], .agg #[.int .i64 y0, .int .i64 y1, .int .i64 y2, .int .i64 y3]] w fun e w' => e = .returned (match syzygyref08_Lcm.v x0 x1 x2 x3 y0 y1 y2 y3 with | (r0, r1, r2, r3) => .agg #[.int .i64 r0, .int .i64 r1, .int .i64 r2, .int .i64 r3]) ∧ Below w.heap.size w w' := by
  unfold syzygyref08_Lcm.v
  have HM := Aside0.mk (syzygyref08_May.calls_ x0 x1 x2 x3)
  have HN := Aside0.mk (syzygyref08_May.calls_ y0 y1 y2 y3)
  have hA := blk_alloc (blk_alloc (blk_alloc (blk_new w (.cells #[.int .i64 x0, .int .i64 x1, .int .i64 x2, .int .i64 x3] 36)) (.cells #[.int .i64 y0, .int .i64 y1, .int .i64 y2, .int .i64 y3] 36)) (.cells #[.int .i64 0, .int .i64 0, .int .i64 0, .int .i64 0] 36)) (.cells #[.int .i64 0, .int .i64 0, .int .i64 0, .int .i64 0] 36)
  have hB := blk_alloc (blk_alloc (blk_new (w.alloc (.cells #[.int .i64 x0, .int .i64 x1, .int .i64 x2, .int .i64 x3] 36)) (.cells #[.int .i64 y0, .int .i64 y1, .int .i64 y2, .int .i64 y3] 36)) (.cells #[.int .i64 0, .int .i64 0, .int .i64 0, .int .i64 0] 36)) (.cells #[.int .i64 0, .int .i64 0, .int .i64 0, .int .i64 0] 36)
  have hR := blk_alloc (blk_new ((w.alloc (.cells #[.int .i64 x0, .int .i64 x1, .int .i64 x2, .int .i64 x3] 36)).alloc (.cells #[.int .i64 y0, .int .i64 y1, .int .i64 y2, .int .i64 y3] 36)) (.cells #[.int .i64 0, .int .i64 0, .int .i64 0, .int .i64 0] 36)) (.cells #[.int .i64 0, .int .i64 0, .int .i64 0, .int .i64 0] 36)
  have hO := blk_new (((w.alloc (.cells #[.int .i64 x0, .int .i64 x1, .int .i64 x2, .int .i64 x3] 36)).alloc (.cells #[.int .i64 y0, .int .i64 y1, .int .i64 y2, .int .i64 y3] 36)).alloc (.cells #[.int .i64 0, .int .i64 0, .int .i64 0, .int .i64 0] 36)) (.cells #[.int .i64 0, .int .i64 0, .int .i64 0, .int .i64 0] 36)
  have hD := below_alloc (below_alloc (below_alloc (below_alloc (Below.refl _ w) (.cells #[.int .i64 x0, .int .i64 x1, .int .i64 x2, .int .i64 x3] 36)) (.cells #[.int .i64 y0, .int .i64 y1, .int .i64 y2, .int .i64 y3] 36)) (.cells #[.int .i64 0, .int .i64 0, .int .i64 0, .int .i64 0] 36)) (.cells #[.int .i64 0, .int .i64 0, .int .i64 0, .int .i64 0] 36)
  simp only [World.size_alloc] at hA hB hR hO
  have HA0 := Aside0.mk hA
  have HB0 := Aside0.mk hB
  have HR0 := Aside0.mk hR
  have HO0 := Aside0.mk hO
  have HD0 := Aside0.mk hD
  clear hA hB hR hO hD
  cases hv : syzygyref08_May.v x0 x1 x2 x3 with
  | false =>
    simp only [cond_false]
    go_enter Try.func22, Try.ntmps22
    go_wp2_with fail
    generalize (((w.alloc (.cells #[.int .i64 x0, .int .i64 x1, .int .i64 x2, .int .i64 x3] 36)).alloc (.cells #[.int .i64 y0, .int .i64 y1, .int .i64 y2, .int .i64 y3] 36)).alloc (.cells #[.int .i64 0, .int .i64 0, .int .i64 0, .int .i64 0] 36)).alloc (.cells #[.int .i64 0, .int .i64 0, .int .i64 0, .int .i64 0] 36) = t0 at HA0 HB0 HR0 HO0 HD0 ⊢
    obtain ⟨z0, z1, z2, z3⟩ := cells4 HO0.out
    have y_0 : t0.frozen? ⟨w.heap.size + 1 + 1 + 1, 0, none⟩ = false := blk_frozen HO0.out 0
    have y_1 : t0.frozen? ⟨w.heap.size + 1 + 1 + 1, 1, none⟩ = false := blk_frozen HO0.out 1
    have y_2 : t0.frozen? ⟨w.heap.size + 1 + 1 + 1, 2, none⟩ = false := blk_frozen HO0.out 2
    have y_3 : t0.frozen? ⟨w.heap.size + 1 + 1 + 1, 3, none⟩ = false := blk_frozen HO0.out 3
    obtain ⟨a0, a1, a2, a3⟩ := cells4 HA0.out
    go_wp2_with fail
    refine (HM.out t0).mono ?_
    rw [hv]
    rintro e t1 ⟨rfl, hb⟩
    have HA1 := Aside0.mk (blk_below HA0.out hb)
    have HB1 := Aside0.mk (blk_below HB0.out hb)
    have HR1 := Aside0.mk (blk_below HR0.out hb)
    have HO1 := Aside0.mk (blk_below HO0.out hb)
    have HD1 := Aside0.mk (HD0.out.trans (hb.mono HD0.out.size))
    clear hb HA0 HB0 HR0 HO0 HD0
    clear z0 z1 z2 z3 y_0 y_1 y_2 y_3 a0 a1 a2 a3
    obtain ⟨o0, o1, o2, o3⟩ := cells4 HO1.out
    have f0 : t1.frozen? ⟨w.heap.size + 1 + 1, 0, none⟩ = false := blk_frozen HR1.out 0
    have f1 : t1.frozen? ⟨w.heap.size + 1 + 1, 1, none⟩ = false := blk_frozen HR1.out 1
    have f2 : t1.frozen? ⟨w.heap.size + 1 + 1, 2, none⟩ = false := blk_frozen HR1.out 2
    have f3 : t1.frozen? ⟨w.heap.size + 1 + 1, 3, none⟩ = false := blk_frozen HR1.out 3
    obtain ⟨r0, r1, r2, r3⟩ := cells4 HR1.out
    go_wp2
    have HR5 := Aside0.mk (blk_put (cs' := #[.int .i64 0, .int .i64 0, .int .i64 0, .int .i64 0]) (blk_put (cs' := #[.int .i64 0, .int .i64 0, .int .i64 0, .int .i64 0]) (blk_put (cs' := #[.int .i64 0, .int .i64 0, .int .i64 0, .int .i64 0]) (blk_put (cs' := #[.int .i64 0, .int .i64 0, .int .i64 0, .int .i64 0]) HR1.out 0 (.int .i64 0) rfl) 1 (.int .i64 0) rfl) 2 (.int .i64 0) rfl) 3 (.int .i64 0) rfl)
    have HD5 := Aside0.mk (Below.setCell (Below.setCell (Below.setCell (Below.setCell HD1.out (p := ⟨w.heap.size + 1 + 1, 0, none⟩) (by show w.heap.size ≤ w.heap.size + 1 + 1; omega) (.int .i64 0)) (p := ⟨w.heap.size + 1 + 1, 1, none⟩) (by show w.heap.size ≤ w.heap.size + 1 + 1; omega) (.int .i64 0)) (p := ⟨w.heap.size + 1 + 1, 2, none⟩) (by show w.heap.size ≤ w.heap.size + 1 + 1; omega) (.int .i64 0)) (p := ⟨w.heap.size + 1 + 1, 3, none⟩) (by show w.heap.size ≤ w.heap.size + 1 + 1; omega) (.int .i64 0))
    generalize (((t1.setCell ⟨w.heap.size + 1 + 1, 0, none⟩ (.int .i64 0)).setCell ⟨w.heap.size + 1 + 1, 1, none⟩ (.int .i64 0)).setCell ⟨w.heap.size + 1 + 1, 2, none⟩ (.int .i64 0)).setCell ⟨w.heap.size + 1 + 1, 3, none⟩ (.int .i64 0) = v9 at HR5 HD5 ⊢
    obtain ⟨d0, d1, d2, d3⟩ := cells4 HR5.out
    exact bodyPost_ret (v := .agg #[.int .i64 0, .int .i64 0, .int .i64 0, .int .i64 0]) (by simp [results, Try.results22, go_sem, d0, d1, d2, d3]) rfl ⟨rfl, HD5.out⟩
  | true =>
    cases hu : syzygyref08_May.v y0 y1 y2 y3 with
    | false =>
      simp only [cond_true, cond_false]
      go_enter Try.func22, Try.ntmps22
      go_wp2_with fail
      generalize (((w.alloc (.cells #[.int .i64 x0, .int .i64 x1, .int .i64 x2, .int .i64 x3] 36)).alloc (.cells #[.int .i64 y0, .int .i64 y1, .int .i64 y2, .int .i64 y3] 36)).alloc (.cells #[.int .i64 0, .int .i64 0, .int .i64 0, .int .i64 0] 36)).alloc (.cells #[.int .i64 0, .int .i64 0, .int .i64 0, .int .i64 0] 36) = t0 at HA0 HB0 HR0 HO0 HD0 ⊢
      obtain ⟨z0, z1, z2, z3⟩ := cells4 HO0.out
      have y_0 : t0.frozen? ⟨w.heap.size + 1 + 1 + 1, 0, none⟩ = false := blk_frozen HO0.out 0
      have y_1 : t0.frozen? ⟨w.heap.size + 1 + 1 + 1, 1, none⟩ = false := blk_frozen HO0.out 1
      have y_2 : t0.frozen? ⟨w.heap.size + 1 + 1 + 1, 2, none⟩ = false := blk_frozen HO0.out 2
      have y_3 : t0.frozen? ⟨w.heap.size + 1 + 1 + 1, 3, none⟩ = false := blk_frozen HO0.out 3
      obtain ⟨a0, a1, a2, a3⟩ := cells4 HA0.out
      go_wp2_with fail
      refine (HM.out t0).mono ?_
      rw [hv]
      rintro e t1 ⟨rfl, hb⟩
      have HA1 := Aside0.mk (blk_below HA0.out hb)
      have HB1 := Aside0.mk (blk_below HB0.out hb)
      have HR1 := Aside0.mk (blk_below HR0.out hb)
      have HO1 := Aside0.mk (blk_below HO0.out hb)
      have HD1 := Aside0.mk (HD0.out.trans (hb.mono HD0.out.size))
      clear hb HA0 HB0 HR0 HO0 HD0
      clear z0 z1 z2 z3 y_0 y_1 y_2 y_3 a0 a1 a2 a3
      obtain ⟨b0, b1, b2, b3⟩ := cells4 HB1.out
      go_wp2_with fail
      refine (HN.out t1).mono ?_
      rw [hu]
      rintro e t2 ⟨rfl, hb⟩
      have HA2 := Aside0.mk (blk_below HA1.out hb)
      have HB2 := Aside0.mk (blk_below HB1.out hb)
      have HR2 := Aside0.mk (blk_below HR1.out hb)
      have HO2 := Aside0.mk (blk_below HO1.out hb)
      have HD2 := Aside0.mk (HD1.out.trans (hb.mono HD1.out.size))
      clear hb HA1 HB1 HR1 HO1 HD1
      clear b0 b1 b2 b3
      obtain ⟨o0, o1, o2, o3⟩ := cells4 HO2.out
      have f0 : t2.frozen? ⟨w.heap.size + 1 + 1, 0, none⟩ = false := blk_frozen HR2.out 0
      have f1 : t2.frozen? ⟨w.heap.size + 1 + 1, 1, none⟩ = false := blk_frozen HR2.out 1
      have f2 : t2.frozen? ⟨w.heap.size + 1 + 1, 2, none⟩ = false := blk_frozen HR2.out 2
      have f3 : t2.frozen? ⟨w.heap.size + 1 + 1, 3, none⟩ = false := blk_frozen HR2.out 3
      obtain ⟨r0, r1, r2, r3⟩ := cells4 HR2.out
      go_wp2
      have HR5 := Aside0.mk (blk_put (cs' := #[.int .i64 0, .int .i64 0, .int .i64 0, .int .i64 0]) (blk_put (cs' := #[.int .i64 0, .int .i64 0, .int .i64 0, .int .i64 0]) (blk_put (cs' := #[.int .i64 0, .int .i64 0, .int .i64 0, .int .i64 0]) (blk_put (cs' := #[.int .i64 0, .int .i64 0, .int .i64 0, .int .i64 0]) HR2.out 0 (.int .i64 0) rfl) 1 (.int .i64 0) rfl) 2 (.int .i64 0) rfl) 3 (.int .i64 0) rfl)
      have HD5 := Aside0.mk (Below.setCell (Below.setCell (Below.setCell (Below.setCell HD2.out (p := ⟨w.heap.size + 1 + 1, 0, none⟩) (by show w.heap.size ≤ w.heap.size + 1 + 1; omega) (.int .i64 0)) (p := ⟨w.heap.size + 1 + 1, 1, none⟩) (by show w.heap.size ≤ w.heap.size + 1 + 1; omega) (.int .i64 0)) (p := ⟨w.heap.size + 1 + 1, 2, none⟩) (by show w.heap.size ≤ w.heap.size + 1 + 1; omega) (.int .i64 0)) (p := ⟨w.heap.size + 1 + 1, 3, none⟩) (by show w.heap.size ≤ w.heap.size + 1 + 1; omega) (.int .i64 0))
      generalize (((t2.setCell ⟨w.heap.size + 1 + 1, 0, none⟩ (.int .i64 0)).setCell ⟨w.heap.size + 1 + 1, 1, none⟩ (.int .i64 0)).setCell ⟨w.heap.size + 1 + 1, 2, none⟩ (.int .i64 0)).setCell ⟨w.heap.size + 1 + 1, 3, none⟩ (.int .i64 0) = v9 at HR5 HD5 ⊢
      obtain ⟨d0, d1, d2, d3⟩ := cells4 HR5.out
      exact bodyPost_ret (v := .agg #[.int .i64 0, .int .i64 0, .int .i64 0, .int .i64 0]) (by simp [results, Try.results22, go_sem, d0, d1, d2, d3]) rfl ⟨rfl, HD5.out⟩
    | true =>
      simp only [cond_true]
      go_enter Try.func22, Try.ntmps22
      go_wp2_with fail
      generalize (((w.alloc (.cells #[.int .i64 x0, .int .i64 x1, .int .i64 x2, .int .i64 x3] 36)).alloc (.cells #[.int .i64 y0, .int .i64 y1, .int .i64 y2, .int .i64 y3] 36)).alloc (.cells #[.int .i64 0, .int .i64 0, .int .i64 0, .int .i64 0] 36)).alloc (.cells #[.int .i64 0, .int .i64 0, .int .i64 0, .int .i64 0] 36) = t0 at HA0 HB0 HR0 HO0 HD0 ⊢
      obtain ⟨z0, z1, z2, z3⟩ := cells4 HO0.out
      have y_0 : t0.frozen? ⟨w.heap.size + 1 + 1 + 1, 0, none⟩ = false := blk_frozen HO0.out 0
      have y_1 : t0.frozen? ⟨w.heap.size + 1 + 1 + 1, 1, none⟩ = false := blk_frozen HO0.out 1
      have y_2 : t0.frozen? ⟨w.heap.size + 1 + 1 + 1, 2, none⟩ = false := blk_frozen HO0.out 2
      have y_3 : t0.frozen? ⟨w.heap.size + 1 + 1 + 1, 3, none⟩ = false := blk_frozen HO0.out 3
      obtain ⟨a0, a1, a2, a3⟩ := cells4 HA0.out
      go_wp2_with fail
      refine (HM.out t0).mono ?_
      rw [hv]
      rintro e t1 ⟨rfl, hb⟩
      have HA1 := Aside0.mk (blk_below HA0.out hb)
      have HB1 := Aside0.mk (blk_below HB0.out hb)
      have HR1 := Aside0.mk (blk_below HR0.out hb)
      have HO1 := Aside0.mk (blk_below HO0.out hb)
      have HD1 := Aside0.mk (HD0.out.trans (hb.mono HD0.out.size))
      clear hb HA0 HB0 HR0 HO0 HD0
      clear z0 z1 z2 z3 y_0 y_1 y_2 y_3 a0 a1 a2 a3
      obtain ⟨b0, b1, b2, b3⟩ := cells4 HB1.out
      go_wp2_with fail
      refine (HN.out t1).mono ?_
      rw [hu]
      rintro e t2 ⟨rfl, hb⟩
      have HA2 := Aside0.mk (blk_below HA1.out hb)
      have HB2 := Aside0.mk (blk_below HB1.out hb)
      have HR2 := Aside0.mk (blk_below HR1.out hb)
      have HO2 := Aside0.mk (blk_below HO1.out hb)
      have HD2 := Aside0.mk (HD1.out.trans (hb.mono HD1.out.size))
      clear hb HA1 HB1 HR1 HO1 HD1
      clear b0 b1 b2 b3
      go_wp2_with fail
      have HA := Aside0.mk HA2.out
      have HB := Aside0.mk HB2.out
      have HR := Aside0.mk HR2.out
      have HO := Aside0.mk HO2.out
      have HD := Aside0.mk HD2.out
      clear HA2 HB2 HR2 HO2 HD2
      refine wp_loop_rounds 5 ?_
      rw [rounds_succ]
      go_wp2
      have ca : (t2.drew).cell? ⟨w.heap.size, 0, none⟩ = some (.int .i64 x0) := (blk_cell (blk_drew HA.out) 0).trans rfl
      have cb : (t2.drew).cell? ⟨w.heap.size + 1, 0, none⟩ = some (.int .i64 y0) := (blk_cell (blk_drew HB.out) 0).trans rfl
      have cc : (t2.drew).cell? ⟨w.heap.size + 1 + 1 + 1, 0, none⟩ = some (.int .i64 0) := (blk_cell (blk_drew HO.out) 0).trans rfl
      have cf : (t2.drew).frozen? ⟨w.heap.size + 1 + 1 + 1, 0, none⟩ = false := blk_frozen (blk_drew HO.out) 0
      have KA := Aside0.mk (blk_drew HA.out)
      have KB := Aside0.mk (blk_drew HB.out)
      have KO := Aside0.mk (blk_drew HO.out)
      have KR := Aside0.mk (blk_drew HR.out)
      have KD := Aside0.mk (below_drew HD.out)
      refine wp_region_still_tail 9 (by kernel_rfl) (by kernel_rfl) ?_
      change wpStill Try.prog _ t2.drew (fun a' => wpList Try.prog _ _ _ a' t2.drew) _ _
      generalize t2.drew = u0 at KA KB KO KR KD ca cb cc cf ⊢
      clear HA HB HO HR HD
      simp only [List.take_succ_cons, List.take_zero, List.drop_succ_cons, List.drop_zero]
      repeat still_step
      refine wpStill_nil ?_
      go_wp2
      have HA := Aside0.mk (blk_far KA.out (p := ⟨w.heap.size + 1 + 1 + 1, 0, none⟩) (by show _ ≠ w.heap.size + 1 + 1 + 1; omega) (.int .i64 (mx x0 y0)))
      have HB := Aside0.mk (blk_far KB.out (p := ⟨w.heap.size + 1 + 1 + 1, 0, none⟩) (by show _ ≠ w.heap.size + 1 + 1 + 1; omega) (.int .i64 (mx x0 y0)))
      have HR := Aside0.mk (blk_far KR.out (p := ⟨w.heap.size + 1 + 1 + 1, 0, none⟩) (by show _ ≠ w.heap.size + 1 + 1 + 1; omega) (.int .i64 (mx x0 y0)))
      have HO := Aside0.mk (blk_put (cs' := #[.int .i64 (mx x0 y0), .int .i64 0, .int .i64 0, .int .i64 0]) KO.out 0 (.int .i64 (mx x0 y0)) rfl)
      have HD := Aside0.mk (Below.setCell KD.out (p := ⟨w.heap.size + 1 + 1 + 1, 0, none⟩) (by show w.heap.size ≤ w.heap.size + 1 + 1 + 1; omega) (.int .i64 (mx x0 y0)))
      generalize u0.setCell ⟨w.heap.size + 1 + 1 + 1, 0, none⟩ (.int .i64 (mx x0 y0)) = v1 at HA HB HO HR HD ⊢
      clear KA KB KO KR KD ca cb cc cf
      rw [rounds_succ]
      go_wp2
      have ca : (v1.drew).cell? ⟨w.heap.size, 1, none⟩ = some (.int .i64 x1) := (blk_cell (blk_drew HA.out) 1).trans rfl
      have cb : (v1.drew).cell? ⟨w.heap.size + 1, 1, none⟩ = some (.int .i64 y1) := (blk_cell (blk_drew HB.out) 1).trans rfl
      have cc : (v1.drew).cell? ⟨w.heap.size + 1 + 1 + 1, 1, none⟩ = some (.int .i64 0) := (blk_cell (blk_drew HO.out) 1).trans rfl
      have cf : (v1.drew).frozen? ⟨w.heap.size + 1 + 1 + 1, 1, none⟩ = false := blk_frozen (blk_drew HO.out) 1
      have KA := Aside0.mk (blk_drew HA.out)
      have KB := Aside0.mk (blk_drew HB.out)
      have KO := Aside0.mk (blk_drew HO.out)
      have KR := Aside0.mk (blk_drew HR.out)
      have KD := Aside0.mk (below_drew HD.out)
      refine wp_region_still_tail 9 (by kernel_rfl) (by kernel_rfl) ?_
      change wpStill Try.prog _ v1.drew (fun a' => wpList Try.prog _ _ _ a' v1.drew) _ _
      generalize v1.drew = u1 at KA KB KO KR KD ca cb cc cf ⊢
      clear HA HB HO HR HD
      simp only [List.take_succ_cons, List.take_zero, List.drop_succ_cons, List.drop_zero]
      repeat still_step
      refine wpStill_nil ?_
      go_wp2
      have HA := Aside0.mk (blk_far KA.out (p := ⟨w.heap.size + 1 + 1 + 1, 1, none⟩) (by show _ ≠ w.heap.size + 1 + 1 + 1; omega) (.int .i64 (mx x1 y1)))
      have HB := Aside0.mk (blk_far KB.out (p := ⟨w.heap.size + 1 + 1 + 1, 1, none⟩) (by show _ ≠ w.heap.size + 1 + 1 + 1; omega) (.int .i64 (mx x1 y1)))
      have HR := Aside0.mk (blk_far KR.out (p := ⟨w.heap.size + 1 + 1 + 1, 1, none⟩) (by show _ ≠ w.heap.size + 1 + 1 + 1; omega) (.int .i64 (mx x1 y1)))
      have HO := Aside0.mk (blk_put (cs' := #[.int .i64 (mx x0 y0), .int .i64 (mx x1 y1), .int .i64 0, .int .i64 0]) KO.out 1 (.int .i64 (mx x1 y1)) rfl)
      have HD := Aside0.mk (Below.setCell KD.out (p := ⟨w.heap.size + 1 + 1 + 1, 1, none⟩) (by show w.heap.size ≤ w.heap.size + 1 + 1 + 1; omega) (.int .i64 (mx x1 y1)))
      generalize u1.setCell ⟨w.heap.size + 1 + 1 + 1, 1, none⟩ (.int .i64 (mx x1 y1)) = v2 at HA HB HO HR HD ⊢
      clear KA KB KO KR KD ca cb cc cf
      rw [rounds_succ]
      go_wp2
      have ca : (v2.drew).cell? ⟨w.heap.size, 2, none⟩ = some (.int .i64 x2) := (blk_cell (blk_drew HA.out) 2).trans rfl
      have cb : (v2.drew).cell? ⟨w.heap.size + 1, 2, none⟩ = some (.int .i64 y2) := (blk_cell (blk_drew HB.out) 2).trans rfl
      have cc : (v2.drew).cell? ⟨w.heap.size + 1 + 1 + 1, 2, none⟩ = some (.int .i64 0) := (blk_cell (blk_drew HO.out) 2).trans rfl
      have cf : (v2.drew).frozen? ⟨w.heap.size + 1 + 1 + 1, 2, none⟩ = false := blk_frozen (blk_drew HO.out) 2
      have KA := Aside0.mk (blk_drew HA.out)
      have KB := Aside0.mk (blk_drew HB.out)
      have KO := Aside0.mk (blk_drew HO.out)
      have KR := Aside0.mk (blk_drew HR.out)
      have KD := Aside0.mk (below_drew HD.out)
      refine wp_region_still_tail 9 (by kernel_rfl) (by kernel_rfl) ?_
      change wpStill Try.prog _ v2.drew (fun a' => wpList Try.prog _ _ _ a' v2.drew) _ _
      generalize v2.drew = u2 at KA KB KO KR KD ca cb cc cf ⊢
      clear HA HB HO HR HD
      simp only [List.take_succ_cons, List.take_zero, List.drop_succ_cons, List.drop_zero]
      repeat still_step
      refine wpStill_nil ?_
      go_wp2
      have HA := Aside0.mk (blk_far KA.out (p := ⟨w.heap.size + 1 + 1 + 1, 2, none⟩) (by show _ ≠ w.heap.size + 1 + 1 + 1; omega) (.int .i64 (mx x2 y2)))
      have HB := Aside0.mk (blk_far KB.out (p := ⟨w.heap.size + 1 + 1 + 1, 2, none⟩) (by show _ ≠ w.heap.size + 1 + 1 + 1; omega) (.int .i64 (mx x2 y2)))
      have HR := Aside0.mk (blk_far KR.out (p := ⟨w.heap.size + 1 + 1 + 1, 2, none⟩) (by show _ ≠ w.heap.size + 1 + 1 + 1; omega) (.int .i64 (mx x2 y2)))
      have HO := Aside0.mk (blk_put (cs' := #[.int .i64 (mx x0 y0), .int .i64 (mx x1 y1), .int .i64 (mx x2 y2), .int .i64 0]) KO.out 2 (.int .i64 (mx x2 y2)) rfl)
      have HD := Aside0.mk (Below.setCell KD.out (p := ⟨w.heap.size + 1 + 1 + 1, 2, none⟩) (by show w.heap.size ≤ w.heap.size + 1 + 1 + 1; omega) (.int .i64 (mx x2 y2)))
      generalize u2.setCell ⟨w.heap.size + 1 + 1 + 1, 2, none⟩ (.int .i64 (mx x2 y2)) = v3 at HA HB HO HR HD ⊢
      clear KA KB KO KR KD ca cb cc cf
      rw [rounds_succ]
      go_wp2
      have ca : (v3.drew).cell? ⟨w.heap.size, 3, none⟩ = some (.int .i64 x3) := (blk_cell (blk_drew HA.out) 3).trans rfl
      have cb : (v3.drew).cell? ⟨w.heap.size + 1, 3, none⟩ = some (.int .i64 y3) := (blk_cell (blk_drew HB.out) 3).trans rfl
      have cc : (v3.drew).cell? ⟨w.heap.size + 1 + 1 + 1, 3, none⟩ = some (.int .i64 0) := (blk_cell (blk_drew HO.out) 3).trans rfl
      have cf : (v3.drew).frozen? ⟨w.heap.size + 1 + 1 + 1, 3, none⟩ = false := blk_frozen (blk_drew HO.out) 3
      have KA := Aside0.mk (blk_drew HA.out)
      have KB := Aside0.mk (blk_drew HB.out)
      have KO := Aside0.mk (blk_drew HO.out)
      have KR := Aside0.mk (blk_drew HR.out)
      have KD := Aside0.mk (below_drew HD.out)
      refine wp_region_still_tail 9 (by kernel_rfl) (by kernel_rfl) ?_
      change wpStill Try.prog _ v3.drew (fun a' => wpList Try.prog _ _ _ a' v3.drew) _ _
      generalize v3.drew = u3 at KA KB KO KR KD ca cb cc cf ⊢
      clear HA HB HO HR HD
      simp only [List.take_succ_cons, List.take_zero, List.drop_succ_cons, List.drop_zero]
      repeat still_step
      refine wpStill_nil ?_
      go_wp2
      have HA := Aside0.mk (blk_far KA.out (p := ⟨w.heap.size + 1 + 1 + 1, 3, none⟩) (by show _ ≠ w.heap.size + 1 + 1 + 1; omega) (.int .i64 (mx x3 y3)))
      have HB := Aside0.mk (blk_far KB.out (p := ⟨w.heap.size + 1 + 1 + 1, 3, none⟩) (by show _ ≠ w.heap.size + 1 + 1 + 1; omega) (.int .i64 (mx x3 y3)))
      have HR := Aside0.mk (blk_far KR.out (p := ⟨w.heap.size + 1 + 1 + 1, 3, none⟩) (by show _ ≠ w.heap.size + 1 + 1 + 1; omega) (.int .i64 (mx x3 y3)))
      have HO := Aside0.mk (blk_put (cs' := #[.int .i64 (mx x0 y0), .int .i64 (mx x1 y1), .int .i64 (mx x2 y2), .int .i64 (mx x3 y3)]) KO.out 3 (.int .i64 (mx x3 y3)) rfl)
      have HD := Aside0.mk (Below.setCell KD.out (p := ⟨w.heap.size + 1 + 1 + 1, 3, none⟩) (by show w.heap.size ≤ w.heap.size + 1 + 1 + 1; omega) (.int .i64 (mx x3 y3)))
      generalize u3.setCell ⟨w.heap.size + 1 + 1 + 1, 3, none⟩ (.int .i64 (mx x3 y3)) = v4 at HA HB HO HR HD ⊢
      clear KA KB KO KR KD ca cb cc cf
      rw [rounds_succ]
      obtain ⟨o0, o1, o2, o3⟩ := cells4 HO.out
      have f0 : v4.frozen? ⟨w.heap.size + 1 + 1, 0, none⟩ = false := blk_frozen HR.out 0
      have f1 : v4.frozen? ⟨w.heap.size + 1 + 1, 1, none⟩ = false := blk_frozen HR.out 1
      have f2 : v4.frozen? ⟨w.heap.size + 1 + 1, 2, none⟩ = false := blk_frozen HR.out 2
      have f3 : v4.frozen? ⟨w.heap.size + 1 + 1, 3, none⟩ = false := blk_frozen HR.out 3
      obtain ⟨r0, r1, r2, r3⟩ := cells4 HR.out
      go_wp2
      have HR5 := Aside0.mk (blk_put (cs' := #[.int .i64 (mx x0 y0), .int .i64 (mx x1 y1), .int .i64 (mx x2 y2), .int .i64 (mx x3 y3)]) (blk_put (cs' := #[.int .i64 (mx x0 y0), .int .i64 (mx x1 y1), .int .i64 (mx x2 y2), .int .i64 0]) (blk_put (cs' := #[.int .i64 (mx x0 y0), .int .i64 (mx x1 y1), .int .i64 0, .int .i64 0]) (blk_put (cs' := #[.int .i64 (mx x0 y0), .int .i64 0, .int .i64 0, .int .i64 0]) HR.out 0 (.int .i64 (mx x0 y0)) rfl) 1 (.int .i64 (mx x1 y1)) rfl) 2 (.int .i64 (mx x2 y2)) rfl) 3 (.int .i64 (mx x3 y3)) rfl)
      have HD5 := Aside0.mk (Below.setCell (Below.setCell (Below.setCell (Below.setCell HD.out (p := ⟨w.heap.size + 1 + 1, 0, none⟩) (by show w.heap.size ≤ w.heap.size + 1 + 1; omega) (.int .i64 (mx x0 y0))) (p := ⟨w.heap.size + 1 + 1, 1, none⟩) (by show w.heap.size ≤ w.heap.size + 1 + 1; omega) (.int .i64 (mx x1 y1))) (p := ⟨w.heap.size + 1 + 1, 2, none⟩) (by show w.heap.size ≤ w.heap.size + 1 + 1; omega) (.int .i64 (mx x2 y2))) (p := ⟨w.heap.size + 1 + 1, 3, none⟩) (by show w.heap.size ≤ w.heap.size + 1 + 1; omega) (.int .i64 (mx x3 y3)))
      generalize (((v4.setCell ⟨w.heap.size + 1 + 1, 0, none⟩ (.int .i64 (mx x0 y0))).setCell ⟨w.heap.size + 1 + 1, 1, none⟩ (.int .i64 (mx x1 y1))).setCell ⟨w.heap.size + 1 + 1, 2, none⟩ (.int .i64 (mx x2 y2))).setCell ⟨w.heap.size + 1 + 1, 3, none⟩ (.int .i64 (mx x3 y3)) = v9 at HR5 HD5 ⊢
      obtain ⟨d0, d1, d2, d3⟩ := cells4 HR5.out
      exact bodyPost_ret (v := .agg #[.int .i64 (mx x0 y0), .int .i64 (mx x1 y1), .int .i64 (mx x2 y2), .int .i64 (mx x3 y3)]) (by simp [results, Try.results22, go_sem, d0, d1, d2, d3]) rfl ⟨rfl, HD5.out⟩
def syzygyref08_Lcm.f (x0 x1 x2 x3 y0 y1 y2 y3 : Int) : Option (Int × Int × Int × Int) := some (syzygyref08_Lcm.v x0 x1 x2 x3 y0 y1 y2 y3)
theorem syzygyref08_Lcm.calls (x0 x1 x2 x3 y0 y1 y2 y3 : Int) (r1 r2 r3 r4 : Int) (w : World) (h : syzygyref08_Lcm.f x0 x1 x2 x3 y0 y1 y2 y3 = some (r1, r2, r3, r4)) :
    Calls Try.prog 22 #[.agg #[.int .i64 x0, .int .i64 x1, .int .i64 x2, .int .i64 x3], .agg #[.int .i64 y0, .int .i64 y1, .int .i64 y2, .int .i64 y3]] w fun e w' => e = .returned (.agg #[.int .i64 r1, .int .i64 r2, .int .i64 r3, .int .i64 r4]) ∧ Below w.heap.size w w' := by
  have h := Option.some.inj h
  have := syzygyref08_Lcm.calls_ x0 x1 x2 x3 y0 y1 y2 y3 w
  rw [h] at this
  exact this
end

/-! ### syzygyref08_sign: function 57 -/
def syzygyref08_sign.f (a0 : Int) : Option (Int) := if a0 < 0 then (some (-1)) else (if a0 > 0 then (some 1) else (some 0))
set_option maxHeartbeats 8000000 in
set_option maxRecDepth 100000 in
theorem syzygyref08_sign.calls (a0 : Int) (r : Int) (w : World) (h : syzygyref08_sign.f a0 = some r) :
    Calls Try.prog 57 #[.int .i64 a0] w fun e w' => e = .returned (.int .i64 r) ∧ Drawn0 w w' := by
  have H : (if a0 < 0 then (some (-1)) else (if a0 > 0 then (some 1) else (some 0))) = some r := h
  clear h
  by_cases c2 : a0 < 0
  · rw [if_pos c2] at H
    have c2b0 : decide (a0 < 0) = true := decide_eq_true c2
    clear c2
    obtain rfl := Option.some.inj H
    go_enter Try.func57, Try.ntmps57
    go_wp2
    go_ret
    exact ⟨by first | rfl | (simp; done) | (simp [*]; done), by repeat (first | exact Drawn0.refl _ | apply Drawn0.step)⟩
  · rw [if_neg c2] at H
    have c2b0 : decide (a0 < 0) = false := decide_eq_false c2
    clear c2
    by_cases c3 : a0 > 0
    · rw [if_pos c3] at H
      have c3b0 : decide (0 < a0) = true := decide_eq_true c3
      clear c3
      obtain rfl := Option.some.inj H
      go_enter Try.func57, Try.ntmps57
      go_wp2
      go_ret
      exact ⟨by first | rfl | (simp; done) | (simp [*]; done), by repeat (first | exact Drawn0.refl _ | apply Drawn0.step)⟩
    · rw [if_neg c3] at H
      have c3b0 : decide (0 < a0) = false := decide_eq_false c3
      clear c3
      obtain rfl := Option.some.inj H
      go_enter Try.func57, Try.ntmps57
      go_wp2
      go_ret
      exact ⟨by first | rfl | (simp; done) | (simp [*]; done), by repeat (first | exact Drawn0.refl _ | apply Drawn0.step)⟩

end Go.Proofs.Ytfoickaangjmnaa.POQueueAll
