-- Written by a program of this session (pr.py, over the kit's print.py).
import Derived.Test.YtmknpclfanblfaaPOMonoArgsx0
import Derived.Test.YtmknpclfanblfaaPOMonoArgsx3
namespace Go.Proofs.Ytmknpclfanblfaa.POMonoArgs
open Go.RowKit Go.Proofs.YtmknpclfanblfaaN Go.Proofs.YtmknpclfanblfaaW.PrintWords Go.Proofs.YtmknpclfanblfaaW.PrintLast Go.Proofs.YtmknpclfanblfaaW.PrintMore
attribute [local go_sem] max2_int min2_int max_two min_two max_three min_three max_four min_four   -- for this text's walks alone
set_option linter.unusedVariables false
set_option linter.unusedSimpArgs false

/-! ### syzygylaw08_shown: function 17 -/
def syzygylaw08_shown.f  : Option (Bool) := (mono_Cmp.f 0 1 0 0 0 0 9 0 0).bind fun t107 => (if t107 = 1 then ((mono_Cmp.f 1 1 0 0 0 0 9 0 0).bind fun t108 => (some (t108 == (-1)))) else (some false))
set_option maxHeartbeats 8000000 in
set_option maxRecDepth 100000 in
theorem syzygylaw08_shown.calls  (r : Bool) (w : World) (h : syzygylaw08_shown.f  = some r) :
    Calls Try.prog 17 #[] w fun e w' => e = .returned (.bool r) ∧ Below w.heap.size w w' := by
  have hu24 := Try.underlying24
  have HB := Aside0.mk (Below.refl w.heap.size w)
  have H : ((mono_Cmp.f 0 1 0 0 0 0 9 0 0).bind fun t107 => (if t107 = 1 then ((mono_Cmp.f 1 1 0 0 0 0 9 0 0).bind fun t108 => (some (t108 == (-1)))) else (some false))) = some r := h
  clear h
  replace H := Option.bind_eq_some_iff.mp H
  obtain ⟨t107, A10, H⟩ := H
  replace H : (if t107 = 1 then ((mono_Cmp.f 1 1 0 0 0 0 9 0 0).bind fun t108 => (some (t108 == (-1)))) else (some false)) = some r := H
  have A1 := Aside0.mk A10
  clear A10
  by_cases c2 : t107 = 1
  · rw [if_pos c2] at H
    have c2b0 : (t107 == 1) = true := beq_iff_eq.mpr c2
    have c2b1 : (t107 != 1) = false := bne_eq_false_iff_eq.mpr c2
    clear c2
    replace H := Option.bind_eq_some_iff.mp H
    obtain ⟨t108, A30, H⟩ := H
    replace H : (some (t108 == (-1))) = some r := H
    have A3 := Aside0.mk A30
    clear A30
    obtain rfl := Option.some.inj H
    go_enter Try.func17, Try.ntmps17
    go_wp2_with (first | ((with_reducible refine gate_callee (f := 16) rfl ?_); refine goesL_ (some 3) rfl rfl Try.func16 (by kernel_rfl) rfl #[.int .i64 0, .agg #[.int .i64 1, .int .i64 0, .int .i64 0, .int .i64 0], .agg #[.int .i64 0, .int .i64 9, .int .i64 0, .int .i64 0]] rfl (by (try simp only [List.map_toArray, List.map_cons, List.map_nil]); first | done | rfl | (simp only [List.length_drop, List.length_take]; rfl)) ?_; (with_reducible refine (mono_Cmp.calls 0 1 0 0 0 0 9 0 0 t107 _ A1.out).mono ?_); rintro e w4 ⟨rfl, hb⟩; refine ⟨_, rfl, ?_⟩; have n0_ := Aside0.mk (below_step (by repeat (first | (with_reducible first | exact HB.out | apply below_alloc | apply pw_below_drewN | apply below_drew1) | exact HB.out)) hb); clear HB; have HB := n0_; clear n0_; (try clear hb); (try clear hb2); (try clear hk); (try clear hi)) | (go_at_call 16; (with_reducible refine (mono_Cmp.calls 1 1 0 0 0 0 9 0 0 t108 _ A3.out).mono ?_); rintro e w5 ⟨rfl, hb⟩; have n0_ := Aside0.mk (below_step (by repeat (first | (with_reducible first | exact HB.out | apply below_alloc | apply pw_below_drewN | apply below_drew1) | exact HB.out)) hb); clear HB; have HB := n0_; clear n0_; (try clear hb); (try clear hb2); (try clear hk); (try clear hi)))
    go_ret
    exact ⟨by first | rfl | (simp [errW_none, errW_some] <;> rfl) | (simp [*, errW_none, errW_some] <;> rfl), by repeat (first | (with_reducible first | exact HB.out | apply below_alloc | apply pw_below_drewN | apply below_drew1) | exact HB.out)⟩
  · rw [if_neg c2] at H
    have c2b0 : (t107 == 1) = false := beq_eq_false_iff_ne.mpr c2
    have c2b1 : (t107 != 1) = true := bne_iff_ne.mpr c2
    obtain rfl := Option.some.inj H
    go_enter Try.func17, Try.ntmps17
    go_wp2_with (first | ((with_reducible refine gate_callee (f := 16) rfl ?_); refine goesL_ (some 3) rfl rfl Try.func16 (by kernel_rfl) rfl #[.int .i64 0, .agg #[.int .i64 1, .int .i64 0, .int .i64 0, .int .i64 0], .agg #[.int .i64 0, .int .i64 9, .int .i64 0, .int .i64 0]] rfl (by (try simp only [List.map_toArray, List.map_cons, List.map_nil]); first | done | rfl | (simp only [List.length_drop, List.length_take]; rfl)) ?_; (with_reducible refine (mono_Cmp.calls 0 1 0 0 0 0 9 0 0 t107 _ A1.out).mono ?_); rintro e w6 ⟨rfl, hb⟩; refine ⟨_, rfl, ?_⟩; have n0_ := Aside0.mk (below_step (by repeat (first | (with_reducible first | exact HB.out | apply below_alloc | apply pw_below_drewN | apply below_drew1) | exact HB.out)) hb); clear HB; have HB := n0_; clear n0_; (try clear hb); (try clear hb2); (try clear hk); (try clear hi)))
    go_ret
    exact ⟨by first | rfl | (simp [errW_none, errW_some] <;> rfl) | (simp [*, errW_none, errW_some] <;> rfl), by repeat (first | (with_reducible first | exact HB.out | apply below_alloc | apply pw_below_drewN | apply below_drew1) | exact HB.out)⟩

/-! ### mono_zipped: function 57 -/
set_option maxHeartbeats 1000000 in
theorem mono_zipped_58.cl (x y : Int) (w : World) : Calls Try.prog 58 #[.int .i64 x, .int .i64 y] w fun e w' => e = .returned (.int .i64 (wrap64 (x + y))) ∧ w' = w := by
  go_enter Try.func58, Try.ntmps58
  go_wp2
  go_ret
  exact ⟨rfl, rfl⟩
set_option maxHeartbeats 4000000 in
theorem mono_zipped_58.calls_ (x0 x1 x2 x3 y0 y1 y2 y3 : Int) (w : World) :
    Calls Try.prog 57 #[.agg #[.int .i64 x0, .int .i64 x1, .int .i64 x2, .int .i64 x3], .agg #[.int .i64 y0, .int .i64 y1, .int .i64 y2, .int .i64 y3], .func (.func 58) #[] #[]] w fun e w' => e = .returned (.agg #[.int .i64 (wrap64 (x0 + y0)), .int .i64 (wrap64 (x1 + y1)), .int .i64 (wrap64 (x2 + y2)), .int .i64 (wrap64 (x3 + y3))]) ∧ Below w.heap.size w w' := by
  have hA := blk_alloc (blk_alloc (blk_new w (.cells #[.int .i64 x0, .int .i64 x1, .int .i64 x2, .int .i64 x3] 24)) (.cells #[.int .i64 y0, .int .i64 y1, .int .i64 y2, .int .i64 y3] 24)) (.cells #[.int .i64 0, .int .i64 0, .int .i64 0, .int .i64 0] 24)
  have hB := blk_alloc (blk_new (w.alloc (.cells #[.int .i64 x0, .int .i64 x1, .int .i64 x2, .int .i64 x3] 24)) (.cells #[.int .i64 y0, .int .i64 y1, .int .i64 y2, .int .i64 y3] 24)) (.cells #[.int .i64 0, .int .i64 0, .int .i64 0, .int .i64 0] 24)
  have hC := blk_new ((w.alloc (.cells #[.int .i64 x0, .int .i64 x1, .int .i64 x2, .int .i64 x3] 24)).alloc (.cells #[.int .i64 y0, .int .i64 y1, .int .i64 y2, .int .i64 y3] 24)) (.cells #[.int .i64 0, .int .i64 0, .int .i64 0, .int .i64 0] 24)
  have hD := below_alloc (below_alloc (below_alloc (Below.refl _ w) (.cells #[.int .i64 x0, .int .i64 x1, .int .i64 x2, .int .i64 x3] 24)) (.cells #[.int .i64 y0, .int .i64 y1, .int .i64 y2, .int .i64 y3] 24)) (.cells #[.int .i64 0, .int .i64 0, .int .i64 0, .int .i64 0] 24)
  simp only [World.size_alloc] at hA hB hC
  have HA0 := Aside0.mk hA
  have HB0 := Aside0.mk hB
  have HC0 := Aside0.mk hC
  have HD0 := Aside0.mk hD
  clear hA hB hC hD
  go_enter Try.func57, Try.ntmps57
  go_wp2
  generalize ((w.alloc (.cells #[.int .i64 x0, .int .i64 x1, .int .i64 x2, .int .i64 x3] 24)).alloc (.cells #[.int .i64 y0, .int .i64 y1, .int .i64 y2, .int .i64 y3] 24)).alloc (.cells #[.int .i64 0, .int .i64 0, .int .i64 0, .int .i64 0] 24) = v0 at HA0 HB0 HC0 HD0 ⊢
  refine wp_loop_rounds 5 ?_
  rw [rounds_succ]
  go_wp2
  have ca : (v0.drew).cell? ⟨w.heap.size, 0, none⟩ = some (.int .i64 x0) := (blk_cell (blk_drew HA0.out) 0).trans rfl
  have cb : (v0.drew).cell? ⟨w.heap.size + 1, 0, none⟩ = some (.int .i64 y0) := (blk_cell (blk_drew HB0.out) 0).trans rfl
  have cc : (v0.drew).cell? ⟨w.heap.size + 1 + 1, 0, none⟩ = some (.int .i64 0) := (blk_cell (blk_drew HC0.out) 0).trans rfl
  have cf : (v0.drew).frozen? ⟨w.heap.size + 1 + 1, 0, none⟩ = false := blk_frozen (blk_drew HC0.out) 0
  have HA := Aside0.mk (blk_drew HA0.out)
  have HB := Aside0.mk (blk_drew HB0.out)
  have HC := Aside0.mk (blk_drew HC0.out)
  have HD := Aside0.mk (below_drew HD0.out)
  refine wp_region_still_tail 10 (by kernel_rfl) (by kernel_rfl) ?_
  change wpStill Try.prog _ v0.drew (fun a' => wpList Try.prog _ _ _ a' v0.drew) _ _
  generalize v0.drew = u0 at HA HB HC HD ca cb cc cf ⊢
  clear HA0 HB0 HC0 HD0 v0
  simp only [List.take_succ_cons, List.take_zero, List.drop_succ_cons, List.drop_zero]
  repeat still_step
  still_call (mono_zipped_58.cl _ _ _)
  still_step
  refine wpStill_nil ?_
  go_wp2
  have HA1 := Aside0.mk (blk_far HA.out (p := ⟨w.heap.size + 1 + 1, 0, none⟩) (by show _ ≠ w.heap.size + 1 + 1; omega) (.int .i64 (wrap64 (x0 + y0))))
  have HB1 := Aside0.mk (blk_far HB.out (p := ⟨w.heap.size + 1 + 1, 0, none⟩) (by show _ ≠ w.heap.size + 1 + 1; omega) (.int .i64 (wrap64 (x0 + y0))))
  have HC1 := Aside0.mk (blk_put (cs' := #[.int .i64 (wrap64 (x0 + y0)), .int .i64 0, .int .i64 0, .int .i64 0]) HC.out 0 (.int .i64 (wrap64 (x0 + y0))) rfl)
  have HD1 := Aside0.mk (below_set (g := w.heap.size + 1 + 1) (j := 0) (v := .int .i64 (wrap64 (x0 + y0))) HD.out (by omega))
  generalize u0.setCell ⟨w.heap.size + 1 + 1, 0, none⟩ (.int .i64 (wrap64 (x0 + y0))) = v1 at HA1 HB1 HC1 HD1 ⊢
  clear HA HB HC HD ca cb cc cf u0
  rw [rounds_succ]
  go_wp2
  have ca : (v1.drew).cell? ⟨w.heap.size, 1, none⟩ = some (.int .i64 x1) := (blk_cell (blk_drew HA1.out) 1).trans rfl
  have cb : (v1.drew).cell? ⟨w.heap.size + 1, 1, none⟩ = some (.int .i64 y1) := (blk_cell (blk_drew HB1.out) 1).trans rfl
  have cc : (v1.drew).cell? ⟨w.heap.size + 1 + 1, 1, none⟩ = some (.int .i64 0) := (blk_cell (blk_drew HC1.out) 1).trans rfl
  have cf : (v1.drew).frozen? ⟨w.heap.size + 1 + 1, 1, none⟩ = false := blk_frozen (blk_drew HC1.out) 1
  have HA := Aside0.mk (blk_drew HA1.out)
  have HB := Aside0.mk (blk_drew HB1.out)
  have HC := Aside0.mk (blk_drew HC1.out)
  have HD := Aside0.mk (below_drew HD1.out)
  refine wp_region_still_tail 10 (by kernel_rfl) (by kernel_rfl) ?_
  change wpStill Try.prog _ v1.drew (fun a' => wpList Try.prog _ _ _ a' v1.drew) _ _
  generalize v1.drew = u1 at HA HB HC HD ca cb cc cf ⊢
  clear HA1 HB1 HC1 HD1 v1
  simp only [List.take_succ_cons, List.take_zero, List.drop_succ_cons, List.drop_zero]
  repeat still_step
  still_call (mono_zipped_58.cl _ _ _)
  still_step
  refine wpStill_nil ?_
  go_wp2
  have HA2 := Aside0.mk (blk_far HA.out (p := ⟨w.heap.size + 1 + 1, 1, none⟩) (by show _ ≠ w.heap.size + 1 + 1; omega) (.int .i64 (wrap64 (x1 + y1))))
  have HB2 := Aside0.mk (blk_far HB.out (p := ⟨w.heap.size + 1 + 1, 1, none⟩) (by show _ ≠ w.heap.size + 1 + 1; omega) (.int .i64 (wrap64 (x1 + y1))))
  have HC2 := Aside0.mk (blk_put (cs' := #[.int .i64 (wrap64 (x0 + y0)), .int .i64 (wrap64 (x1 + y1)), .int .i64 0, .int .i64 0]) HC.out 1 (.int .i64 (wrap64 (x1 + y1))) rfl)
  have HD2 := Aside0.mk (below_set (g := w.heap.size + 1 + 1) (j := 1) (v := .int .i64 (wrap64 (x1 + y1))) HD.out (by omega))
  generalize u1.setCell ⟨w.heap.size + 1 + 1, 1, none⟩ (.int .i64 (wrap64 (x1 + y1))) = v2 at HA2 HB2 HC2 HD2 ⊢
  clear HA HB HC HD ca cb cc cf u1
  rw [rounds_succ]
  go_wp2
  have ca : (v2.drew).cell? ⟨w.heap.size, 2, none⟩ = some (.int .i64 x2) := (blk_cell (blk_drew HA2.out) 2).trans rfl
  have cb : (v2.drew).cell? ⟨w.heap.size + 1, 2, none⟩ = some (.int .i64 y2) := (blk_cell (blk_drew HB2.out) 2).trans rfl
  have cc : (v2.drew).cell? ⟨w.heap.size + 1 + 1, 2, none⟩ = some (.int .i64 0) := (blk_cell (blk_drew HC2.out) 2).trans rfl
  have cf : (v2.drew).frozen? ⟨w.heap.size + 1 + 1, 2, none⟩ = false := blk_frozen (blk_drew HC2.out) 2
  have HA := Aside0.mk (blk_drew HA2.out)
  have HB := Aside0.mk (blk_drew HB2.out)
  have HC := Aside0.mk (blk_drew HC2.out)
  have HD := Aside0.mk (below_drew HD2.out)
  refine wp_region_still_tail 10 (by kernel_rfl) (by kernel_rfl) ?_
  change wpStill Try.prog _ v2.drew (fun a' => wpList Try.prog _ _ _ a' v2.drew) _ _
  generalize v2.drew = u2 at HA HB HC HD ca cb cc cf ⊢
  clear HA2 HB2 HC2 HD2 v2
  simp only [List.take_succ_cons, List.take_zero, List.drop_succ_cons, List.drop_zero]
  repeat still_step
  still_call (mono_zipped_58.cl _ _ _)
  still_step
  refine wpStill_nil ?_
  go_wp2
  have HA3 := Aside0.mk (blk_far HA.out (p := ⟨w.heap.size + 1 + 1, 2, none⟩) (by show _ ≠ w.heap.size + 1 + 1; omega) (.int .i64 (wrap64 (x2 + y2))))
  have HB3 := Aside0.mk (blk_far HB.out (p := ⟨w.heap.size + 1 + 1, 2, none⟩) (by show _ ≠ w.heap.size + 1 + 1; omega) (.int .i64 (wrap64 (x2 + y2))))
  have HC3 := Aside0.mk (blk_put (cs' := #[.int .i64 (wrap64 (x0 + y0)), .int .i64 (wrap64 (x1 + y1)), .int .i64 (wrap64 (x2 + y2)), .int .i64 0]) HC.out 2 (.int .i64 (wrap64 (x2 + y2))) rfl)
  have HD3 := Aside0.mk (below_set (g := w.heap.size + 1 + 1) (j := 2) (v := .int .i64 (wrap64 (x2 + y2))) HD.out (by omega))
  generalize u2.setCell ⟨w.heap.size + 1 + 1, 2, none⟩ (.int .i64 (wrap64 (x2 + y2))) = v3 at HA3 HB3 HC3 HD3 ⊢
  clear HA HB HC HD ca cb cc cf u2
  rw [rounds_succ]
  go_wp2
  have ca : (v3.drew).cell? ⟨w.heap.size, 3, none⟩ = some (.int .i64 x3) := (blk_cell (blk_drew HA3.out) 3).trans rfl
  have cb : (v3.drew).cell? ⟨w.heap.size + 1, 3, none⟩ = some (.int .i64 y3) := (blk_cell (blk_drew HB3.out) 3).trans rfl
  have cc : (v3.drew).cell? ⟨w.heap.size + 1 + 1, 3, none⟩ = some (.int .i64 0) := (blk_cell (blk_drew HC3.out) 3).trans rfl
  have cf : (v3.drew).frozen? ⟨w.heap.size + 1 + 1, 3, none⟩ = false := blk_frozen (blk_drew HC3.out) 3
  have HA := Aside0.mk (blk_drew HA3.out)
  have HB := Aside0.mk (blk_drew HB3.out)
  have HC := Aside0.mk (blk_drew HC3.out)
  have HD := Aside0.mk (below_drew HD3.out)
  refine wp_region_still_tail 10 (by kernel_rfl) (by kernel_rfl) ?_
  change wpStill Try.prog _ v3.drew (fun a' => wpList Try.prog _ _ _ a' v3.drew) _ _
  generalize v3.drew = u3 at HA HB HC HD ca cb cc cf ⊢
  clear HA3 HB3 HC3 HD3 v3
  simp only [List.take_succ_cons, List.take_zero, List.drop_succ_cons, List.drop_zero]
  repeat still_step
  still_call (mono_zipped_58.cl _ _ _)
  still_step
  refine wpStill_nil ?_
  go_wp2
  have HA4 := Aside0.mk (blk_far HA.out (p := ⟨w.heap.size + 1 + 1, 3, none⟩) (by show _ ≠ w.heap.size + 1 + 1; omega) (.int .i64 (wrap64 (x3 + y3))))
  have HB4 := Aside0.mk (blk_far HB.out (p := ⟨w.heap.size + 1 + 1, 3, none⟩) (by show _ ≠ w.heap.size + 1 + 1; omega) (.int .i64 (wrap64 (x3 + y3))))
  have HC4 := Aside0.mk (blk_put (cs' := #[.int .i64 (wrap64 (x0 + y0)), .int .i64 (wrap64 (x1 + y1)), .int .i64 (wrap64 (x2 + y2)), .int .i64 (wrap64 (x3 + y3))]) HC.out 3 (.int .i64 (wrap64 (x3 + y3))) rfl)
  have HD4 := Aside0.mk (below_set (g := w.heap.size + 1 + 1) (j := 3) (v := .int .i64 (wrap64 (x3 + y3))) HD.out (by omega))
  generalize u3.setCell ⟨w.heap.size + 1 + 1, 3, none⟩ (.int .i64 (wrap64 (x3 + y3))) = v4 at HA4 HB4 HC4 HD4 ⊢
  clear HA HB HC HD ca cb cc cf u3
  have c0 : v4.cell? ⟨w.heap.size + 1 + 1, 0, none⟩ = some (.int .i64 (wrap64 (x0 + y0))) := (blk_cell HC4.out 0).trans rfl
  have c1 : v4.cell? ⟨w.heap.size + 1 + 1, 1, none⟩ = some (.int .i64 (wrap64 (x1 + y1))) := (blk_cell HC4.out 1).trans rfl
  have c2 : v4.cell? ⟨w.heap.size + 1 + 1, 2, none⟩ = some (.int .i64 (wrap64 (x2 + y2))) := (blk_cell HC4.out 2).trans rfl
  have c3 : v4.cell? ⟨w.heap.size + 1 + 1, 3, none⟩ = some (.int .i64 (wrap64 (x3 + y3))) := (blk_cell HC4.out 3).trans rfl
  have cf0 : v4.frozen? ⟨w.heap.size + 1 + 1, 0, none⟩ = false := blk_frozen HC4.out 0
  have cf1 : v4.frozen? ⟨w.heap.size + 1 + 1, 1, none⟩ = false := blk_frozen HC4.out 1
  have cf2 : v4.frozen? ⟨w.heap.size + 1 + 1, 2, none⟩ = false := blk_frozen HC4.out 2
  have cf3 : v4.frozen? ⟨w.heap.size + 1 + 1, 3, none⟩ = false := blk_frozen HC4.out 3
  rw [rounds_succ]
  go_wp2
  have HC5 := Aside0.mk (blk_put (cs' := #[.int .i64 (wrap64 (x0 + y0)), .int .i64 (wrap64 (x1 + y1)), .int .i64 (wrap64 (x2 + y2)), .int .i64 (wrap64 (x3 + y3))]) (blk_put (cs' := #[.int .i64 (wrap64 (x0 + y0)), .int .i64 (wrap64 (x1 + y1)), .int .i64 (wrap64 (x2 + y2)), .int .i64 (wrap64 (x3 + y3))]) (blk_put (cs' := #[.int .i64 (wrap64 (x0 + y0)), .int .i64 (wrap64 (x1 + y1)), .int .i64 (wrap64 (x2 + y2)), .int .i64 (wrap64 (x3 + y3))]) (blk_put (cs' := #[.int .i64 (wrap64 (x0 + y0)), .int .i64 (wrap64 (x1 + y1)), .int .i64 (wrap64 (x2 + y2)), .int .i64 (wrap64 (x3 + y3))]) HC4.out 0 (.int .i64 (wrap64 (x0 + y0))) rfl) 1 (.int .i64 (wrap64 (x1 + y1))) rfl) 2 (.int .i64 (wrap64 (x2 + y2))) rfl) 3 (.int .i64 (wrap64 (x3 + y3))) rfl)
  have HD5 := Aside0.mk (below_set (g := w.heap.size + 1 + 1) (j := 3) (v := .int .i64 (wrap64 (x3 + y3))) (below_set (g := w.heap.size + 1 + 1) (j := 2) (v := .int .i64 (wrap64 (x2 + y2))) (below_set (g := w.heap.size + 1 + 1) (j := 1) (v := .int .i64 (wrap64 (x1 + y1))) (below_set (g := w.heap.size + 1 + 1) (j := 0) (v := .int .i64 (wrap64 (x0 + y0))) HD4.out (by omega)) (by omega)) (by omega)) (by omega))
  generalize (((v4.setCell ⟨w.heap.size + 1 + 1, 0, none⟩ (.int .i64 (wrap64 (x0 + y0)))).setCell ⟨w.heap.size + 1 + 1, 1, none⟩ (.int .i64 (wrap64 (x1 + y1)))).setCell ⟨w.heap.size + 1 + 1, 2, none⟩ (.int .i64 (wrap64 (x2 + y2)))).setCell ⟨w.heap.size + 1 + 1, 3, none⟩ (.int .i64 (wrap64 (x3 + y3))) = v5 at HC5 HD5 ⊢
  have d0 : v5.cell? ⟨w.heap.size + 1 + 1, 0, none⟩ = some (.int .i64 (wrap64 (x0 + y0))) := (blk_cell HC5.out 0).trans rfl
  have d1 : v5.cell? ⟨w.heap.size + 1 + 1, 1, none⟩ = some (.int .i64 (wrap64 (x1 + y1))) := (blk_cell HC5.out 1).trans rfl
  have d2 : v5.cell? ⟨w.heap.size + 1 + 1, 2, none⟩ = some (.int .i64 (wrap64 (x2 + y2))) := (blk_cell HC5.out 2).trans rfl
  have d3 : v5.cell? ⟨w.heap.size + 1 + 1, 3, none⟩ = some (.int .i64 (wrap64 (x3 + y3))) := (blk_cell HC5.out 3).trans rfl
  exact bodyPost_ret (v := .agg #[.int .i64 (wrap64 (x0 + y0)), .int .i64 (wrap64 (x1 + y1)), .int .i64 (wrap64 (x2 + y2)), .int .i64 (wrap64 (x3 + y3))]) (by simp [results, Try.results57, go_sem, d0, d1, d2, d3]) rfl ⟨rfl, HD5.out⟩
def mono_zipped_58.f (x0 x1 x2 x3 y0 y1 y2 y3 : Int) : Option (Int × Int × Int × Int) := some ((wrap64 (x0 + y0)), (wrap64 (x1 + y1)), (wrap64 (x2 + y2)), (wrap64 (x3 + y3)))
theorem mono_zipped_58.calls (x0 x1 x2 x3 y0 y1 y2 y3 : Int) (r1 r2 r3 r4 : Int) (w : World) (h : mono_zipped_58.f x0 x1 x2 x3 y0 y1 y2 y3 = some (r1, r2, r3, r4)) :
    Calls Try.prog 57 #[.agg #[.int .i64 x0, .int .i64 x1, .int .i64 x2, .int .i64 x3], .agg #[.int .i64 y0, .int .i64 y1, .int .i64 y2, .int .i64 y3], .func (.func 58) #[] #[]] w fun e w' => e = .returned (.agg #[.int .i64 r1, .int .i64 r2, .int .i64 r3, .int .i64 r4]) ∧ Below w.heap.size w w' := by
  have h := Option.some.inj h
  simp only [Prod.mk.injEq] at h
  obtain ⟨rfl, rfl, rfl, rfl⟩ := h
  exact mono_zipped_58.calls_ x0 x1 x2 x3 y0 y1 y2 y3 w
set_option maxHeartbeats 1000000 in
theorem mono_zipped_59.cl (x y : Int) (w : World) : Calls Try.prog 59 #[.int .i64 x, .int .i64 y] w fun e w' => e = .returned (.int .i64 (wrap64 (x - y))) ∧ w' = w := by
  go_enter Try.func59, Try.ntmps59
  go_wp2
  go_ret
  exact ⟨rfl, rfl⟩
set_option maxHeartbeats 4000000 in
theorem mono_zipped_59.calls_ (x0 x1 x2 x3 y0 y1 y2 y3 : Int) (w : World) :
    Calls Try.prog 57 #[.agg #[.int .i64 x0, .int .i64 x1, .int .i64 x2, .int .i64 x3], .agg #[.int .i64 y0, .int .i64 y1, .int .i64 y2, .int .i64 y3], .func (.func 59) #[] #[]] w fun e w' => e = .returned (.agg #[.int .i64 (wrap64 (x0 - y0)), .int .i64 (wrap64 (x1 - y1)), .int .i64 (wrap64 (x2 - y2)), .int .i64 (wrap64 (x3 - y3))]) ∧ Below w.heap.size w w' := by
  have hA := blk_alloc (blk_alloc (blk_new w (.cells #[.int .i64 x0, .int .i64 x1, .int .i64 x2, .int .i64 x3] 24)) (.cells #[.int .i64 y0, .int .i64 y1, .int .i64 y2, .int .i64 y3] 24)) (.cells #[.int .i64 0, .int .i64 0, .int .i64 0, .int .i64 0] 24)
  have hB := blk_alloc (blk_new (w.alloc (.cells #[.int .i64 x0, .int .i64 x1, .int .i64 x2, .int .i64 x3] 24)) (.cells #[.int .i64 y0, .int .i64 y1, .int .i64 y2, .int .i64 y3] 24)) (.cells #[.int .i64 0, .int .i64 0, .int .i64 0, .int .i64 0] 24)
  have hC := blk_new ((w.alloc (.cells #[.int .i64 x0, .int .i64 x1, .int .i64 x2, .int .i64 x3] 24)).alloc (.cells #[.int .i64 y0, .int .i64 y1, .int .i64 y2, .int .i64 y3] 24)) (.cells #[.int .i64 0, .int .i64 0, .int .i64 0, .int .i64 0] 24)
  have hD := below_alloc (below_alloc (below_alloc (Below.refl _ w) (.cells #[.int .i64 x0, .int .i64 x1, .int .i64 x2, .int .i64 x3] 24)) (.cells #[.int .i64 y0, .int .i64 y1, .int .i64 y2, .int .i64 y3] 24)) (.cells #[.int .i64 0, .int .i64 0, .int .i64 0, .int .i64 0] 24)
  simp only [World.size_alloc] at hA hB hC
  have HA0 := Aside0.mk hA
  have HB0 := Aside0.mk hB
  have HC0 := Aside0.mk hC
  have HD0 := Aside0.mk hD
  clear hA hB hC hD
  go_enter Try.func57, Try.ntmps57
  go_wp2
  generalize ((w.alloc (.cells #[.int .i64 x0, .int .i64 x1, .int .i64 x2, .int .i64 x3] 24)).alloc (.cells #[.int .i64 y0, .int .i64 y1, .int .i64 y2, .int .i64 y3] 24)).alloc (.cells #[.int .i64 0, .int .i64 0, .int .i64 0, .int .i64 0] 24) = v0 at HA0 HB0 HC0 HD0 ⊢
  refine wp_loop_rounds 5 ?_
  rw [rounds_succ]
  go_wp2
  have ca : (v0.drew).cell? ⟨w.heap.size, 0, none⟩ = some (.int .i64 x0) := (blk_cell (blk_drew HA0.out) 0).trans rfl
  have cb : (v0.drew).cell? ⟨w.heap.size + 1, 0, none⟩ = some (.int .i64 y0) := (blk_cell (blk_drew HB0.out) 0).trans rfl
  have cc : (v0.drew).cell? ⟨w.heap.size + 1 + 1, 0, none⟩ = some (.int .i64 0) := (blk_cell (blk_drew HC0.out) 0).trans rfl
  have cf : (v0.drew).frozen? ⟨w.heap.size + 1 + 1, 0, none⟩ = false := blk_frozen (blk_drew HC0.out) 0
  have HA := Aside0.mk (blk_drew HA0.out)
  have HB := Aside0.mk (blk_drew HB0.out)
  have HC := Aside0.mk (blk_drew HC0.out)
  have HD := Aside0.mk (below_drew HD0.out)
  refine wp_region_still_tail 10 (by kernel_rfl) (by kernel_rfl) ?_
  change wpStill Try.prog _ v0.drew (fun a' => wpList Try.prog _ _ _ a' v0.drew) _ _
  generalize v0.drew = u0 at HA HB HC HD ca cb cc cf ⊢
  clear HA0 HB0 HC0 HD0 v0
  simp only [List.take_succ_cons, List.take_zero, List.drop_succ_cons, List.drop_zero]
  repeat still_step
  still_call (mono_zipped_59.cl _ _ _)
  still_step
  refine wpStill_nil ?_
  go_wp2
  have HA1 := Aside0.mk (blk_far HA.out (p := ⟨w.heap.size + 1 + 1, 0, none⟩) (by show _ ≠ w.heap.size + 1 + 1; omega) (.int .i64 (wrap64 (x0 - y0))))
  have HB1 := Aside0.mk (blk_far HB.out (p := ⟨w.heap.size + 1 + 1, 0, none⟩) (by show _ ≠ w.heap.size + 1 + 1; omega) (.int .i64 (wrap64 (x0 - y0))))
  have HC1 := Aside0.mk (blk_put (cs' := #[.int .i64 (wrap64 (x0 - y0)), .int .i64 0, .int .i64 0, .int .i64 0]) HC.out 0 (.int .i64 (wrap64 (x0 - y0))) rfl)
  have HD1 := Aside0.mk (below_set (g := w.heap.size + 1 + 1) (j := 0) (v := .int .i64 (wrap64 (x0 - y0))) HD.out (by omega))
  generalize u0.setCell ⟨w.heap.size + 1 + 1, 0, none⟩ (.int .i64 (wrap64 (x0 - y0))) = v1 at HA1 HB1 HC1 HD1 ⊢
  clear HA HB HC HD ca cb cc cf u0
  rw [rounds_succ]
  go_wp2
  have ca : (v1.drew).cell? ⟨w.heap.size, 1, none⟩ = some (.int .i64 x1) := (blk_cell (blk_drew HA1.out) 1).trans rfl
  have cb : (v1.drew).cell? ⟨w.heap.size + 1, 1, none⟩ = some (.int .i64 y1) := (blk_cell (blk_drew HB1.out) 1).trans rfl
  have cc : (v1.drew).cell? ⟨w.heap.size + 1 + 1, 1, none⟩ = some (.int .i64 0) := (blk_cell (blk_drew HC1.out) 1).trans rfl
  have cf : (v1.drew).frozen? ⟨w.heap.size + 1 + 1, 1, none⟩ = false := blk_frozen (blk_drew HC1.out) 1
  have HA := Aside0.mk (blk_drew HA1.out)
  have HB := Aside0.mk (blk_drew HB1.out)
  have HC := Aside0.mk (blk_drew HC1.out)
  have HD := Aside0.mk (below_drew HD1.out)
  refine wp_region_still_tail 10 (by kernel_rfl) (by kernel_rfl) ?_
  change wpStill Try.prog _ v1.drew (fun a' => wpList Try.prog _ _ _ a' v1.drew) _ _
  generalize v1.drew = u1 at HA HB HC HD ca cb cc cf ⊢
  clear HA1 HB1 HC1 HD1 v1
  simp only [List.take_succ_cons, List.take_zero, List.drop_succ_cons, List.drop_zero]
  repeat still_step
  still_call (mono_zipped_59.cl _ _ _)
  still_step
  refine wpStill_nil ?_
  go_wp2
  have HA2 := Aside0.mk (blk_far HA.out (p := ⟨w.heap.size + 1 + 1, 1, none⟩) (by show _ ≠ w.heap.size + 1 + 1; omega) (.int .i64 (wrap64 (x1 - y1))))
  have HB2 := Aside0.mk (blk_far HB.out (p := ⟨w.heap.size + 1 + 1, 1, none⟩) (by show _ ≠ w.heap.size + 1 + 1; omega) (.int .i64 (wrap64 (x1 - y1))))
  have HC2 := Aside0.mk (blk_put (cs' := #[.int .i64 (wrap64 (x0 - y0)), .int .i64 (wrap64 (x1 - y1)), .int .i64 0, .int .i64 0]) HC.out 1 (.int .i64 (wrap64 (x1 - y1))) rfl)
  have HD2 := Aside0.mk (below_set (g := w.heap.size + 1 + 1) (j := 1) (v := .int .i64 (wrap64 (x1 - y1))) HD.out (by omega))
  generalize u1.setCell ⟨w.heap.size + 1 + 1, 1, none⟩ (.int .i64 (wrap64 (x1 - y1))) = v2 at HA2 HB2 HC2 HD2 ⊢
  clear HA HB HC HD ca cb cc cf u1
  rw [rounds_succ]
  go_wp2
  have ca : (v2.drew).cell? ⟨w.heap.size, 2, none⟩ = some (.int .i64 x2) := (blk_cell (blk_drew HA2.out) 2).trans rfl
  have cb : (v2.drew).cell? ⟨w.heap.size + 1, 2, none⟩ = some (.int .i64 y2) := (blk_cell (blk_drew HB2.out) 2).trans rfl
  have cc : (v2.drew).cell? ⟨w.heap.size + 1 + 1, 2, none⟩ = some (.int .i64 0) := (blk_cell (blk_drew HC2.out) 2).trans rfl
  have cf : (v2.drew).frozen? ⟨w.heap.size + 1 + 1, 2, none⟩ = false := blk_frozen (blk_drew HC2.out) 2
  have HA := Aside0.mk (blk_drew HA2.out)
  have HB := Aside0.mk (blk_drew HB2.out)
  have HC := Aside0.mk (blk_drew HC2.out)
  have HD := Aside0.mk (below_drew HD2.out)
  refine wp_region_still_tail 10 (by kernel_rfl) (by kernel_rfl) ?_
  change wpStill Try.prog _ v2.drew (fun a' => wpList Try.prog _ _ _ a' v2.drew) _ _
  generalize v2.drew = u2 at HA HB HC HD ca cb cc cf ⊢
  clear HA2 HB2 HC2 HD2 v2
  simp only [List.take_succ_cons, List.take_zero, List.drop_succ_cons, List.drop_zero]
  repeat still_step
  still_call (mono_zipped_59.cl _ _ _)
  still_step
  refine wpStill_nil ?_
  go_wp2
  have HA3 := Aside0.mk (blk_far HA.out (p := ⟨w.heap.size + 1 + 1, 2, none⟩) (by show _ ≠ w.heap.size + 1 + 1; omega) (.int .i64 (wrap64 (x2 - y2))))
  have HB3 := Aside0.mk (blk_far HB.out (p := ⟨w.heap.size + 1 + 1, 2, none⟩) (by show _ ≠ w.heap.size + 1 + 1; omega) (.int .i64 (wrap64 (x2 - y2))))
  have HC3 := Aside0.mk (blk_put (cs' := #[.int .i64 (wrap64 (x0 - y0)), .int .i64 (wrap64 (x1 - y1)), .int .i64 (wrap64 (x2 - y2)), .int .i64 0]) HC.out 2 (.int .i64 (wrap64 (x2 - y2))) rfl)
  have HD3 := Aside0.mk (below_set (g := w.heap.size + 1 + 1) (j := 2) (v := .int .i64 (wrap64 (x2 - y2))) HD.out (by omega))
  generalize u2.setCell ⟨w.heap.size + 1 + 1, 2, none⟩ (.int .i64 (wrap64 (x2 - y2))) = v3 at HA3 HB3 HC3 HD3 ⊢
  clear HA HB HC HD ca cb cc cf u2
  rw [rounds_succ]
  go_wp2
  have ca : (v3.drew).cell? ⟨w.heap.size, 3, none⟩ = some (.int .i64 x3) := (blk_cell (blk_drew HA3.out) 3).trans rfl
  have cb : (v3.drew).cell? ⟨w.heap.size + 1, 3, none⟩ = some (.int .i64 y3) := (blk_cell (blk_drew HB3.out) 3).trans rfl
  have cc : (v3.drew).cell? ⟨w.heap.size + 1 + 1, 3, none⟩ = some (.int .i64 0) := (blk_cell (blk_drew HC3.out) 3).trans rfl
  have cf : (v3.drew).frozen? ⟨w.heap.size + 1 + 1, 3, none⟩ = false := blk_frozen (blk_drew HC3.out) 3
  have HA := Aside0.mk (blk_drew HA3.out)
  have HB := Aside0.mk (blk_drew HB3.out)
  have HC := Aside0.mk (blk_drew HC3.out)
  have HD := Aside0.mk (below_drew HD3.out)
  refine wp_region_still_tail 10 (by kernel_rfl) (by kernel_rfl) ?_
  change wpStill Try.prog _ v3.drew (fun a' => wpList Try.prog _ _ _ a' v3.drew) _ _
  generalize v3.drew = u3 at HA HB HC HD ca cb cc cf ⊢
  clear HA3 HB3 HC3 HD3 v3
  simp only [List.take_succ_cons, List.take_zero, List.drop_succ_cons, List.drop_zero]
  repeat still_step
  still_call (mono_zipped_59.cl _ _ _)
  still_step
  refine wpStill_nil ?_
  go_wp2
  have HA4 := Aside0.mk (blk_far HA.out (p := ⟨w.heap.size + 1 + 1, 3, none⟩) (by show _ ≠ w.heap.size + 1 + 1; omega) (.int .i64 (wrap64 (x3 - y3))))
  have HB4 := Aside0.mk (blk_far HB.out (p := ⟨w.heap.size + 1 + 1, 3, none⟩) (by show _ ≠ w.heap.size + 1 + 1; omega) (.int .i64 (wrap64 (x3 - y3))))
  have HC4 := Aside0.mk (blk_put (cs' := #[.int .i64 (wrap64 (x0 - y0)), .int .i64 (wrap64 (x1 - y1)), .int .i64 (wrap64 (x2 - y2)), .int .i64 (wrap64 (x3 - y3))]) HC.out 3 (.int .i64 (wrap64 (x3 - y3))) rfl)
  have HD4 := Aside0.mk (below_set (g := w.heap.size + 1 + 1) (j := 3) (v := .int .i64 (wrap64 (x3 - y3))) HD.out (by omega))
  generalize u3.setCell ⟨w.heap.size + 1 + 1, 3, none⟩ (.int .i64 (wrap64 (x3 - y3))) = v4 at HA4 HB4 HC4 HD4 ⊢
  clear HA HB HC HD ca cb cc cf u3
  have c0 : v4.cell? ⟨w.heap.size + 1 + 1, 0, none⟩ = some (.int .i64 (wrap64 (x0 - y0))) := (blk_cell HC4.out 0).trans rfl
  have c1 : v4.cell? ⟨w.heap.size + 1 + 1, 1, none⟩ = some (.int .i64 (wrap64 (x1 - y1))) := (blk_cell HC4.out 1).trans rfl
  have c2 : v4.cell? ⟨w.heap.size + 1 + 1, 2, none⟩ = some (.int .i64 (wrap64 (x2 - y2))) := (blk_cell HC4.out 2).trans rfl
  have c3 : v4.cell? ⟨w.heap.size + 1 + 1, 3, none⟩ = some (.int .i64 (wrap64 (x3 - y3))) := (blk_cell HC4.out 3).trans rfl
  have cf0 : v4.frozen? ⟨w.heap.size + 1 + 1, 0, none⟩ = false := blk_frozen HC4.out 0
  have cf1 : v4.frozen? ⟨w.heap.size + 1 + 1, 1, none⟩ = false := blk_frozen HC4.out 1
  have cf2 : v4.frozen? ⟨w.heap.size + 1 + 1, 2, none⟩ = false := blk_frozen HC4.out 2
  have cf3 : v4.frozen? ⟨w.heap.size + 1 + 1, 3, none⟩ = false := blk_frozen HC4.out 3
  rw [rounds_succ]
  go_wp2
  have HC5 := Aside0.mk (blk_put (cs' := #[.int .i64 (wrap64 (x0 - y0)), .int .i64 (wrap64 (x1 - y1)), .int .i64 (wrap64 (x2 - y2)), .int .i64 (wrap64 (x3 - y3))]) (blk_put (cs' := #[.int .i64 (wrap64 (x0 - y0)), .int .i64 (wrap64 (x1 - y1)), .int .i64 (wrap64 (x2 - y2)), .int .i64 (wrap64 (x3 - y3))]) (blk_put (cs' := #[.int .i64 (wrap64 (x0 - y0)), .int .i64 (wrap64 (x1 - y1)), .int .i64 (wrap64 (x2 - y2)), .int .i64 (wrap64 (x3 - y3))]) (blk_put (cs' := #[.int .i64 (wrap64 (x0 - y0)), .int .i64 (wrap64 (x1 - y1)), .int .i64 (wrap64 (x2 - y2)), .int .i64 (wrap64 (x3 - y3))]) HC4.out 0 (.int .i64 (wrap64 (x0 - y0))) rfl) 1 (.int .i64 (wrap64 (x1 - y1))) rfl) 2 (.int .i64 (wrap64 (x2 - y2))) rfl) 3 (.int .i64 (wrap64 (x3 - y3))) rfl)
  have HD5 := Aside0.mk (below_set (g := w.heap.size + 1 + 1) (j := 3) (v := .int .i64 (wrap64 (x3 - y3))) (below_set (g := w.heap.size + 1 + 1) (j := 2) (v := .int .i64 (wrap64 (x2 - y2))) (below_set (g := w.heap.size + 1 + 1) (j := 1) (v := .int .i64 (wrap64 (x1 - y1))) (below_set (g := w.heap.size + 1 + 1) (j := 0) (v := .int .i64 (wrap64 (x0 - y0))) HD4.out (by omega)) (by omega)) (by omega)) (by omega))
  generalize (((v4.setCell ⟨w.heap.size + 1 + 1, 0, none⟩ (.int .i64 (wrap64 (x0 - y0)))).setCell ⟨w.heap.size + 1 + 1, 1, none⟩ (.int .i64 (wrap64 (x1 - y1)))).setCell ⟨w.heap.size + 1 + 1, 2, none⟩ (.int .i64 (wrap64 (x2 - y2)))).setCell ⟨w.heap.size + 1 + 1, 3, none⟩ (.int .i64 (wrap64 (x3 - y3))) = v5 at HC5 HD5 ⊢
  have d0 : v5.cell? ⟨w.heap.size + 1 + 1, 0, none⟩ = some (.int .i64 (wrap64 (x0 - y0))) := (blk_cell HC5.out 0).trans rfl
  have d1 : v5.cell? ⟨w.heap.size + 1 + 1, 1, none⟩ = some (.int .i64 (wrap64 (x1 - y1))) := (blk_cell HC5.out 1).trans rfl
  have d2 : v5.cell? ⟨w.heap.size + 1 + 1, 2, none⟩ = some (.int .i64 (wrap64 (x2 - y2))) := (blk_cell HC5.out 2).trans rfl
  have d3 : v5.cell? ⟨w.heap.size + 1 + 1, 3, none⟩ = some (.int .i64 (wrap64 (x3 - y3))) := (blk_cell HC5.out 3).trans rfl
  exact bodyPost_ret (v := .agg #[.int .i64 (wrap64 (x0 - y0)), .int .i64 (wrap64 (x1 - y1)), .int .i64 (wrap64 (x2 - y2)), .int .i64 (wrap64 (x3 - y3))]) (by simp [results, Try.results57, go_sem, d0, d1, d2, d3]) rfl ⟨rfl, HD5.out⟩
def mono_zipped_59.f (x0 x1 x2 x3 y0 y1 y2 y3 : Int) : Option (Int × Int × Int × Int) := some ((wrap64 (x0 - y0)), (wrap64 (x1 - y1)), (wrap64 (x2 - y2)), (wrap64 (x3 - y3)))
theorem mono_zipped_59.calls (x0 x1 x2 x3 y0 y1 y2 y3 : Int) (r1 r2 r3 r4 : Int) (w : World) (h : mono_zipped_59.f x0 x1 x2 x3 y0 y1 y2 y3 = some (r1, r2, r3, r4)) :
    Calls Try.prog 57 #[.agg #[.int .i64 x0, .int .i64 x1, .int .i64 x2, .int .i64 x3], .agg #[.int .i64 y0, .int .i64 y1, .int .i64 y2, .int .i64 y3], .func (.func 59) #[] #[]] w fun e w' => e = .returned (.agg #[.int .i64 r1, .int .i64 r2, .int .i64 r3, .int .i64 r4]) ∧ Below w.heap.size w w' := by
  have h := Option.some.inj h
  simp only [Prod.mk.injEq] at h
  obtain ⟨rfl, rfl, rfl, rfl⟩ := h
  exact mono_zipped_59.calls_ x0 x1 x2 x3 y0 y1 y2 y3 w
set_option maxHeartbeats 1000000 in
theorem mono_zipped_60.cl (x y : Int) (w : World) : Calls Try.prog 60 #[.int .i64 x, .int .i64 y] w fun e w' => e = .returned (.int .i64 (mx (x) (y))) ∧ w' = w := by
  have hm : mx (x) (y) = if x < y then y else x := rfl
  rw [hm]
  by_cases h : x < y
  · rw [if_pos h]
    go_enter Try.func60, Try.ntmps60
    go_wp2
    go_ret
    exact ⟨rfl, rfl⟩
  · rw [if_neg h]
    go_enter Try.func60, Try.ntmps60
    go_wp2
    go_ret
    exact ⟨rfl, rfl⟩
set_option maxHeartbeats 4000000 in
theorem mono_zipped_60.calls_ (x0 x1 x2 x3 y0 y1 y2 y3 : Int) (w : World) :
    Calls Try.prog 57 #[.agg #[.int .i64 x0, .int .i64 x1, .int .i64 x2, .int .i64 x3], .agg #[.int .i64 y0, .int .i64 y1, .int .i64 y2, .int .i64 y3], .func (.func 60) #[] #[]] w fun e w' => e = .returned (.agg #[.int .i64 (mx (x0) (y0)), .int .i64 (mx (x1) (y1)), .int .i64 (mx (x2) (y2)), .int .i64 (mx (x3) (y3))]) ∧ Below w.heap.size w w' := by
  have hA := blk_alloc (blk_alloc (blk_new w (.cells #[.int .i64 x0, .int .i64 x1, .int .i64 x2, .int .i64 x3] 24)) (.cells #[.int .i64 y0, .int .i64 y1, .int .i64 y2, .int .i64 y3] 24)) (.cells #[.int .i64 0, .int .i64 0, .int .i64 0, .int .i64 0] 24)
  have hB := blk_alloc (blk_new (w.alloc (.cells #[.int .i64 x0, .int .i64 x1, .int .i64 x2, .int .i64 x3] 24)) (.cells #[.int .i64 y0, .int .i64 y1, .int .i64 y2, .int .i64 y3] 24)) (.cells #[.int .i64 0, .int .i64 0, .int .i64 0, .int .i64 0] 24)
  have hC := blk_new ((w.alloc (.cells #[.int .i64 x0, .int .i64 x1, .int .i64 x2, .int .i64 x3] 24)).alloc (.cells #[.int .i64 y0, .int .i64 y1, .int .i64 y2, .int .i64 y3] 24)) (.cells #[.int .i64 0, .int .i64 0, .int .i64 0, .int .i64 0] 24)
  have hD := below_alloc (below_alloc (below_alloc (Below.refl _ w) (.cells #[.int .i64 x0, .int .i64 x1, .int .i64 x2, .int .i64 x3] 24)) (.cells #[.int .i64 y0, .int .i64 y1, .int .i64 y2, .int .i64 y3] 24)) (.cells #[.int .i64 0, .int .i64 0, .int .i64 0, .int .i64 0] 24)
  simp only [World.size_alloc] at hA hB hC
  have HA0 := Aside0.mk hA
  have HB0 := Aside0.mk hB
  have HC0 := Aside0.mk hC
  have HD0 := Aside0.mk hD
  clear hA hB hC hD
  go_enter Try.func57, Try.ntmps57
  go_wp2
  generalize ((w.alloc (.cells #[.int .i64 x0, .int .i64 x1, .int .i64 x2, .int .i64 x3] 24)).alloc (.cells #[.int .i64 y0, .int .i64 y1, .int .i64 y2, .int .i64 y3] 24)).alloc (.cells #[.int .i64 0, .int .i64 0, .int .i64 0, .int .i64 0] 24) = v0 at HA0 HB0 HC0 HD0 ⊢
  refine wp_loop_rounds 5 ?_
  rw [rounds_succ]
  go_wp2
  have ca : (v0.drew).cell? ⟨w.heap.size, 0, none⟩ = some (.int .i64 x0) := (blk_cell (blk_drew HA0.out) 0).trans rfl
  have cb : (v0.drew).cell? ⟨w.heap.size + 1, 0, none⟩ = some (.int .i64 y0) := (blk_cell (blk_drew HB0.out) 0).trans rfl
  have cc : (v0.drew).cell? ⟨w.heap.size + 1 + 1, 0, none⟩ = some (.int .i64 0) := (blk_cell (blk_drew HC0.out) 0).trans rfl
  have cf : (v0.drew).frozen? ⟨w.heap.size + 1 + 1, 0, none⟩ = false := blk_frozen (blk_drew HC0.out) 0
  have HA := Aside0.mk (blk_drew HA0.out)
  have HB := Aside0.mk (blk_drew HB0.out)
  have HC := Aside0.mk (blk_drew HC0.out)
  have HD := Aside0.mk (below_drew HD0.out)
  refine wp_region_still_tail 10 (by kernel_rfl) (by kernel_rfl) ?_
  change wpStill Try.prog _ v0.drew (fun a' => wpList Try.prog _ _ _ a' v0.drew) _ _
  generalize v0.drew = u0 at HA HB HC HD ca cb cc cf ⊢
  clear HA0 HB0 HC0 HD0 v0
  simp only [List.take_succ_cons, List.take_zero, List.drop_succ_cons, List.drop_zero]
  repeat still_step
  still_call (mono_zipped_60.cl _ _ _)
  still_step
  refine wpStill_nil ?_
  go_wp2
  have HA1 := Aside0.mk (blk_far HA.out (p := ⟨w.heap.size + 1 + 1, 0, none⟩) (by show _ ≠ w.heap.size + 1 + 1; omega) (.int .i64 (mx (x0) (y0))))
  have HB1 := Aside0.mk (blk_far HB.out (p := ⟨w.heap.size + 1 + 1, 0, none⟩) (by show _ ≠ w.heap.size + 1 + 1; omega) (.int .i64 (mx (x0) (y0))))
  have HC1 := Aside0.mk (blk_put (cs' := #[.int .i64 (mx (x0) (y0)), .int .i64 0, .int .i64 0, .int .i64 0]) HC.out 0 (.int .i64 (mx (x0) (y0))) rfl)
  have HD1 := Aside0.mk (below_set (g := w.heap.size + 1 + 1) (j := 0) (v := .int .i64 (mx (x0) (y0))) HD.out (by omega))
  generalize u0.setCell ⟨w.heap.size + 1 + 1, 0, none⟩ (.int .i64 (mx (x0) (y0))) = v1 at HA1 HB1 HC1 HD1 ⊢
  clear HA HB HC HD ca cb cc cf u0
  rw [rounds_succ]
  go_wp2
  have ca : (v1.drew).cell? ⟨w.heap.size, 1, none⟩ = some (.int .i64 x1) := (blk_cell (blk_drew HA1.out) 1).trans rfl
  have cb : (v1.drew).cell? ⟨w.heap.size + 1, 1, none⟩ = some (.int .i64 y1) := (blk_cell (blk_drew HB1.out) 1).trans rfl
  have cc : (v1.drew).cell? ⟨w.heap.size + 1 + 1, 1, none⟩ = some (.int .i64 0) := (blk_cell (blk_drew HC1.out) 1).trans rfl
  have cf : (v1.drew).frozen? ⟨w.heap.size + 1 + 1, 1, none⟩ = false := blk_frozen (blk_drew HC1.out) 1
  have HA := Aside0.mk (blk_drew HA1.out)
  have HB := Aside0.mk (blk_drew HB1.out)
  have HC := Aside0.mk (blk_drew HC1.out)
  have HD := Aside0.mk (below_drew HD1.out)
  refine wp_region_still_tail 10 (by kernel_rfl) (by kernel_rfl) ?_
  change wpStill Try.prog _ v1.drew (fun a' => wpList Try.prog _ _ _ a' v1.drew) _ _
  generalize v1.drew = u1 at HA HB HC HD ca cb cc cf ⊢
  clear HA1 HB1 HC1 HD1 v1
  simp only [List.take_succ_cons, List.take_zero, List.drop_succ_cons, List.drop_zero]
  repeat still_step
  still_call (mono_zipped_60.cl _ _ _)
  still_step
  refine wpStill_nil ?_
  go_wp2
  have HA2 := Aside0.mk (blk_far HA.out (p := ⟨w.heap.size + 1 + 1, 1, none⟩) (by show _ ≠ w.heap.size + 1 + 1; omega) (.int .i64 (mx (x1) (y1))))
  have HB2 := Aside0.mk (blk_far HB.out (p := ⟨w.heap.size + 1 + 1, 1, none⟩) (by show _ ≠ w.heap.size + 1 + 1; omega) (.int .i64 (mx (x1) (y1))))
  have HC2 := Aside0.mk (blk_put (cs' := #[.int .i64 (mx (x0) (y0)), .int .i64 (mx (x1) (y1)), .int .i64 0, .int .i64 0]) HC.out 1 (.int .i64 (mx (x1) (y1))) rfl)
  have HD2 := Aside0.mk (below_set (g := w.heap.size + 1 + 1) (j := 1) (v := .int .i64 (mx (x1) (y1))) HD.out (by omega))
  generalize u1.setCell ⟨w.heap.size + 1 + 1, 1, none⟩ (.int .i64 (mx (x1) (y1))) = v2 at HA2 HB2 HC2 HD2 ⊢
  clear HA HB HC HD ca cb cc cf u1
  rw [rounds_succ]
  go_wp2
  have ca : (v2.drew).cell? ⟨w.heap.size, 2, none⟩ = some (.int .i64 x2) := (blk_cell (blk_drew HA2.out) 2).trans rfl
  have cb : (v2.drew).cell? ⟨w.heap.size + 1, 2, none⟩ = some (.int .i64 y2) := (blk_cell (blk_drew HB2.out) 2).trans rfl
  have cc : (v2.drew).cell? ⟨w.heap.size + 1 + 1, 2, none⟩ = some (.int .i64 0) := (blk_cell (blk_drew HC2.out) 2).trans rfl
  have cf : (v2.drew).frozen? ⟨w.heap.size + 1 + 1, 2, none⟩ = false := blk_frozen (blk_drew HC2.out) 2
  have HA := Aside0.mk (blk_drew HA2.out)
  have HB := Aside0.mk (blk_drew HB2.out)
  have HC := Aside0.mk (blk_drew HC2.out)
  have HD := Aside0.mk (below_drew HD2.out)
  refine wp_region_still_tail 10 (by kernel_rfl) (by kernel_rfl) ?_
  change wpStill Try.prog _ v2.drew (fun a' => wpList Try.prog _ _ _ a' v2.drew) _ _
  generalize v2.drew = u2 at HA HB HC HD ca cb cc cf ⊢
  clear HA2 HB2 HC2 HD2 v2
  simp only [List.take_succ_cons, List.take_zero, List.drop_succ_cons, List.drop_zero]
  repeat still_step
  still_call (mono_zipped_60.cl _ _ _)
  still_step
  refine wpStill_nil ?_
  go_wp2
  have HA3 := Aside0.mk (blk_far HA.out (p := ⟨w.heap.size + 1 + 1, 2, none⟩) (by show _ ≠ w.heap.size + 1 + 1; omega) (.int .i64 (mx (x2) (y2))))
  have HB3 := Aside0.mk (blk_far HB.out (p := ⟨w.heap.size + 1 + 1, 2, none⟩) (by show _ ≠ w.heap.size + 1 + 1; omega) (.int .i64 (mx (x2) (y2))))
  have HC3 := Aside0.mk (blk_put (cs' := #[.int .i64 (mx (x0) (y0)), .int .i64 (mx (x1) (y1)), .int .i64 (mx (x2) (y2)), .int .i64 0]) HC.out 2 (.int .i64 (mx (x2) (y2))) rfl)
  have HD3 := Aside0.mk (below_set (g := w.heap.size + 1 + 1) (j := 2) (v := .int .i64 (mx (x2) (y2))) HD.out (by omega))
  generalize u2.setCell ⟨w.heap.size + 1 + 1, 2, none⟩ (.int .i64 (mx (x2) (y2))) = v3 at HA3 HB3 HC3 HD3 ⊢
  clear HA HB HC HD ca cb cc cf u2
  rw [rounds_succ]
  go_wp2
  have ca : (v3.drew).cell? ⟨w.heap.size, 3, none⟩ = some (.int .i64 x3) := (blk_cell (blk_drew HA3.out) 3).trans rfl
  have cb : (v3.drew).cell? ⟨w.heap.size + 1, 3, none⟩ = some (.int .i64 y3) := (blk_cell (blk_drew HB3.out) 3).trans rfl
  have cc : (v3.drew).cell? ⟨w.heap.size + 1 + 1, 3, none⟩ = some (.int .i64 0) := (blk_cell (blk_drew HC3.out) 3).trans rfl
  have cf : (v3.drew).frozen? ⟨w.heap.size + 1 + 1, 3, none⟩ = false := blk_frozen (blk_drew HC3.out) 3
  have HA := Aside0.mk (blk_drew HA3.out)
  have HB := Aside0.mk (blk_drew HB3.out)
  have HC := Aside0.mk (blk_drew HC3.out)
  have HD := Aside0.mk (below_drew HD3.out)
  refine wp_region_still_tail 10 (by kernel_rfl) (by kernel_rfl) ?_
  change wpStill Try.prog _ v3.drew (fun a' => wpList Try.prog _ _ _ a' v3.drew) _ _
  generalize v3.drew = u3 at HA HB HC HD ca cb cc cf ⊢
  clear HA3 HB3 HC3 HD3 v3
  simp only [List.take_succ_cons, List.take_zero, List.drop_succ_cons, List.drop_zero]
  repeat still_step
  still_call (mono_zipped_60.cl _ _ _)
  still_step
  refine wpStill_nil ?_
  go_wp2
  have HA4 := Aside0.mk (blk_far HA.out (p := ⟨w.heap.size + 1 + 1, 3, none⟩) (by show _ ≠ w.heap.size + 1 + 1; omega) (.int .i64 (mx (x3) (y3))))
  have HB4 := Aside0.mk (blk_far HB.out (p := ⟨w.heap.size + 1 + 1, 3, none⟩) (by show _ ≠ w.heap.size + 1 + 1; omega) (.int .i64 (mx (x3) (y3))))
  have HC4 := Aside0.mk (blk_put (cs' := #[.int .i64 (mx (x0) (y0)), .int .i64 (mx (x1) (y1)), .int .i64 (mx (x2) (y2)), .int .i64 (mx (x3) (y3))]) HC.out 3 (.int .i64 (mx (x3) (y3))) rfl)
  have HD4 := Aside0.mk (below_set (g := w.heap.size + 1 + 1) (j := 3) (v := .int .i64 (mx (x3) (y3))) HD.out (by omega))
  generalize u3.setCell ⟨w.heap.size + 1 + 1, 3, none⟩ (.int .i64 (mx (x3) (y3))) = v4 at HA4 HB4 HC4 HD4 ⊢
  clear HA HB HC HD ca cb cc cf u3
  have c0 : v4.cell? ⟨w.heap.size + 1 + 1, 0, none⟩ = some (.int .i64 (mx (x0) (y0))) := (blk_cell HC4.out 0).trans rfl
  have c1 : v4.cell? ⟨w.heap.size + 1 + 1, 1, none⟩ = some (.int .i64 (mx (x1) (y1))) := (blk_cell HC4.out 1).trans rfl
  have c2 : v4.cell? ⟨w.heap.size + 1 + 1, 2, none⟩ = some (.int .i64 (mx (x2) (y2))) := (blk_cell HC4.out 2).trans rfl
  have c3 : v4.cell? ⟨w.heap.size + 1 + 1, 3, none⟩ = some (.int .i64 (mx (x3) (y3))) := (blk_cell HC4.out 3).trans rfl
  have cf0 : v4.frozen? ⟨w.heap.size + 1 + 1, 0, none⟩ = false := blk_frozen HC4.out 0
  have cf1 : v4.frozen? ⟨w.heap.size + 1 + 1, 1, none⟩ = false := blk_frozen HC4.out 1
  have cf2 : v4.frozen? ⟨w.heap.size + 1 + 1, 2, none⟩ = false := blk_frozen HC4.out 2
  have cf3 : v4.frozen? ⟨w.heap.size + 1 + 1, 3, none⟩ = false := blk_frozen HC4.out 3
  rw [rounds_succ]
  go_wp2
  have HC5 := Aside0.mk (blk_put (cs' := #[.int .i64 (mx (x0) (y0)), .int .i64 (mx (x1) (y1)), .int .i64 (mx (x2) (y2)), .int .i64 (mx (x3) (y3))]) (blk_put (cs' := #[.int .i64 (mx (x0) (y0)), .int .i64 (mx (x1) (y1)), .int .i64 (mx (x2) (y2)), .int .i64 (mx (x3) (y3))]) (blk_put (cs' := #[.int .i64 (mx (x0) (y0)), .int .i64 (mx (x1) (y1)), .int .i64 (mx (x2) (y2)), .int .i64 (mx (x3) (y3))]) (blk_put (cs' := #[.int .i64 (mx (x0) (y0)), .int .i64 (mx (x1) (y1)), .int .i64 (mx (x2) (y2)), .int .i64 (mx (x3) (y3))]) HC4.out 0 (.int .i64 (mx (x0) (y0))) rfl) 1 (.int .i64 (mx (x1) (y1))) rfl) 2 (.int .i64 (mx (x2) (y2))) rfl) 3 (.int .i64 (mx (x3) (y3))) rfl)
  have HD5 := Aside0.mk (below_set (g := w.heap.size + 1 + 1) (j := 3) (v := .int .i64 (mx (x3) (y3))) (below_set (g := w.heap.size + 1 + 1) (j := 2) (v := .int .i64 (mx (x2) (y2))) (below_set (g := w.heap.size + 1 + 1) (j := 1) (v := .int .i64 (mx (x1) (y1))) (below_set (g := w.heap.size + 1 + 1) (j := 0) (v := .int .i64 (mx (x0) (y0))) HD4.out (by omega)) (by omega)) (by omega)) (by omega))
  generalize (((v4.setCell ⟨w.heap.size + 1 + 1, 0, none⟩ (.int .i64 (mx (x0) (y0)))).setCell ⟨w.heap.size + 1 + 1, 1, none⟩ (.int .i64 (mx (x1) (y1)))).setCell ⟨w.heap.size + 1 + 1, 2, none⟩ (.int .i64 (mx (x2) (y2)))).setCell ⟨w.heap.size + 1 + 1, 3, none⟩ (.int .i64 (mx (x3) (y3))) = v5 at HC5 HD5 ⊢
  have d0 : v5.cell? ⟨w.heap.size + 1 + 1, 0, none⟩ = some (.int .i64 (mx (x0) (y0))) := (blk_cell HC5.out 0).trans rfl
  have d1 : v5.cell? ⟨w.heap.size + 1 + 1, 1, none⟩ = some (.int .i64 (mx (x1) (y1))) := (blk_cell HC5.out 1).trans rfl
  have d2 : v5.cell? ⟨w.heap.size + 1 + 1, 2, none⟩ = some (.int .i64 (mx (x2) (y2))) := (blk_cell HC5.out 2).trans rfl
  have d3 : v5.cell? ⟨w.heap.size + 1 + 1, 3, none⟩ = some (.int .i64 (mx (x3) (y3))) := (blk_cell HC5.out 3).trans rfl
  exact bodyPost_ret (v := .agg #[.int .i64 (mx (x0) (y0)), .int .i64 (mx (x1) (y1)), .int .i64 (mx (x2) (y2)), .int .i64 (mx (x3) (y3))]) (by simp [results, Try.results57, go_sem, d0, d1, d2, d3]) rfl ⟨rfl, HD5.out⟩
def mono_zipped_60.f (x0 x1 x2 x3 y0 y1 y2 y3 : Int) : Option (Int × Int × Int × Int) := some ((mx (x0) (y0)), (mx (x1) (y1)), (mx (x2) (y2)), (mx (x3) (y3)))
theorem mono_zipped_60.calls (x0 x1 x2 x3 y0 y1 y2 y3 : Int) (r1 r2 r3 r4 : Int) (w : World) (h : mono_zipped_60.f x0 x1 x2 x3 y0 y1 y2 y3 = some (r1, r2, r3, r4)) :
    Calls Try.prog 57 #[.agg #[.int .i64 x0, .int .i64 x1, .int .i64 x2, .int .i64 x3], .agg #[.int .i64 y0, .int .i64 y1, .int .i64 y2, .int .i64 y3], .func (.func 60) #[] #[]] w fun e w' => e = .returned (.agg #[.int .i64 r1, .int .i64 r2, .int .i64 r3, .int .i64 r4]) ∧ Below w.heap.size w w' := by
  have h := Option.some.inj h
  simp only [Prod.mk.injEq] at h
  obtain ⟨rfl, rfl, rfl, rfl⟩ := h
  exact mono_zipped_60.calls_ x0 x1 x2 x3 y0 y1 y2 y3 w
set_option maxHeartbeats 1000000 in
theorem mono_zipped_73.cl (x y : Int) (w : World) : Calls Try.prog 73 #[.int .i64 x, .int .i64 y] w fun e w' => e = .returned (.int .i64 (mn (x) (y))) ∧ w' = w := by
  have hm : mn (x) (y) = if y < x then y else x := rfl
  rw [hm]
  by_cases h : y < x
  · rw [if_pos h]
    go_enter Try.func73, Try.ntmps73
    go_wp2
    go_ret
    exact ⟨rfl, rfl⟩
  · rw [if_neg h]
    go_enter Try.func73, Try.ntmps73
    go_wp2
    go_ret
    exact ⟨rfl, rfl⟩
set_option maxHeartbeats 4000000 in
theorem mono_zipped_73.calls_ (x0 x1 x2 x3 y0 y1 y2 y3 : Int) (w : World) :
    Calls Try.prog 57 #[.agg #[.int .i64 x0, .int .i64 x1, .int .i64 x2, .int .i64 x3], .agg #[.int .i64 y0, .int .i64 y1, .int .i64 y2, .int .i64 y3], .func (.func 73) #[] #[]] w fun e w' => e = .returned (.agg #[.int .i64 (mn (x0) (y0)), .int .i64 (mn (x1) (y1)), .int .i64 (mn (x2) (y2)), .int .i64 (mn (x3) (y3))]) ∧ Below w.heap.size w w' := by
  have hA := blk_alloc (blk_alloc (blk_new w (.cells #[.int .i64 x0, .int .i64 x1, .int .i64 x2, .int .i64 x3] 24)) (.cells #[.int .i64 y0, .int .i64 y1, .int .i64 y2, .int .i64 y3] 24)) (.cells #[.int .i64 0, .int .i64 0, .int .i64 0, .int .i64 0] 24)
  have hB := blk_alloc (blk_new (w.alloc (.cells #[.int .i64 x0, .int .i64 x1, .int .i64 x2, .int .i64 x3] 24)) (.cells #[.int .i64 y0, .int .i64 y1, .int .i64 y2, .int .i64 y3] 24)) (.cells #[.int .i64 0, .int .i64 0, .int .i64 0, .int .i64 0] 24)
  have hC := blk_new ((w.alloc (.cells #[.int .i64 x0, .int .i64 x1, .int .i64 x2, .int .i64 x3] 24)).alloc (.cells #[.int .i64 y0, .int .i64 y1, .int .i64 y2, .int .i64 y3] 24)) (.cells #[.int .i64 0, .int .i64 0, .int .i64 0, .int .i64 0] 24)
  have hD := below_alloc (below_alloc (below_alloc (Below.refl _ w) (.cells #[.int .i64 x0, .int .i64 x1, .int .i64 x2, .int .i64 x3] 24)) (.cells #[.int .i64 y0, .int .i64 y1, .int .i64 y2, .int .i64 y3] 24)) (.cells #[.int .i64 0, .int .i64 0, .int .i64 0, .int .i64 0] 24)
  simp only [World.size_alloc] at hA hB hC
  have HA0 := Aside0.mk hA
  have HB0 := Aside0.mk hB
  have HC0 := Aside0.mk hC
  have HD0 := Aside0.mk hD
  clear hA hB hC hD
  go_enter Try.func57, Try.ntmps57
  go_wp2
  generalize ((w.alloc (.cells #[.int .i64 x0, .int .i64 x1, .int .i64 x2, .int .i64 x3] 24)).alloc (.cells #[.int .i64 y0, .int .i64 y1, .int .i64 y2, .int .i64 y3] 24)).alloc (.cells #[.int .i64 0, .int .i64 0, .int .i64 0, .int .i64 0] 24) = v0 at HA0 HB0 HC0 HD0 ⊢
  refine wp_loop_rounds 5 ?_
  rw [rounds_succ]
  go_wp2
  have ca : (v0.drew).cell? ⟨w.heap.size, 0, none⟩ = some (.int .i64 x0) := (blk_cell (blk_drew HA0.out) 0).trans rfl
  have cb : (v0.drew).cell? ⟨w.heap.size + 1, 0, none⟩ = some (.int .i64 y0) := (blk_cell (blk_drew HB0.out) 0).trans rfl
  have cc : (v0.drew).cell? ⟨w.heap.size + 1 + 1, 0, none⟩ = some (.int .i64 0) := (blk_cell (blk_drew HC0.out) 0).trans rfl
  have cf : (v0.drew).frozen? ⟨w.heap.size + 1 + 1, 0, none⟩ = false := blk_frozen (blk_drew HC0.out) 0
  have HA := Aside0.mk (blk_drew HA0.out)
  have HB := Aside0.mk (blk_drew HB0.out)
  have HC := Aside0.mk (blk_drew HC0.out)
  have HD := Aside0.mk (below_drew HD0.out)
  refine wp_region_still_tail 10 (by kernel_rfl) (by kernel_rfl) ?_
  change wpStill Try.prog _ v0.drew (fun a' => wpList Try.prog _ _ _ a' v0.drew) _ _
  generalize v0.drew = u0 at HA HB HC HD ca cb cc cf ⊢
  clear HA0 HB0 HC0 HD0 v0
  simp only [List.take_succ_cons, List.take_zero, List.drop_succ_cons, List.drop_zero]
  repeat still_step
  still_call (mono_zipped_73.cl _ _ _)
  still_step
  refine wpStill_nil ?_
  go_wp2
  have HA1 := Aside0.mk (blk_far HA.out (p := ⟨w.heap.size + 1 + 1, 0, none⟩) (by show _ ≠ w.heap.size + 1 + 1; omega) (.int .i64 (mn (x0) (y0))))
  have HB1 := Aside0.mk (blk_far HB.out (p := ⟨w.heap.size + 1 + 1, 0, none⟩) (by show _ ≠ w.heap.size + 1 + 1; omega) (.int .i64 (mn (x0) (y0))))
  have HC1 := Aside0.mk (blk_put (cs' := #[.int .i64 (mn (x0) (y0)), .int .i64 0, .int .i64 0, .int .i64 0]) HC.out 0 (.int .i64 (mn (x0) (y0))) rfl)
  have HD1 := Aside0.mk (below_set (g := w.heap.size + 1 + 1) (j := 0) (v := .int .i64 (mn (x0) (y0))) HD.out (by omega))
  generalize u0.setCell ⟨w.heap.size + 1 + 1, 0, none⟩ (.int .i64 (mn (x0) (y0))) = v1 at HA1 HB1 HC1 HD1 ⊢
  clear HA HB HC HD ca cb cc cf u0
  rw [rounds_succ]
  go_wp2
  have ca : (v1.drew).cell? ⟨w.heap.size, 1, none⟩ = some (.int .i64 x1) := (blk_cell (blk_drew HA1.out) 1).trans rfl
  have cb : (v1.drew).cell? ⟨w.heap.size + 1, 1, none⟩ = some (.int .i64 y1) := (blk_cell (blk_drew HB1.out) 1).trans rfl
  have cc : (v1.drew).cell? ⟨w.heap.size + 1 + 1, 1, none⟩ = some (.int .i64 0) := (blk_cell (blk_drew HC1.out) 1).trans rfl
  have cf : (v1.drew).frozen? ⟨w.heap.size + 1 + 1, 1, none⟩ = false := blk_frozen (blk_drew HC1.out) 1
  have HA := Aside0.mk (blk_drew HA1.out)
  have HB := Aside0.mk (blk_drew HB1.out)
  have HC := Aside0.mk (blk_drew HC1.out)
  have HD := Aside0.mk (below_drew HD1.out)
  refine wp_region_still_tail 10 (by kernel_rfl) (by kernel_rfl) ?_
  change wpStill Try.prog _ v1.drew (fun a' => wpList Try.prog _ _ _ a' v1.drew) _ _
  generalize v1.drew = u1 at HA HB HC HD ca cb cc cf ⊢
  clear HA1 HB1 HC1 HD1 v1
  simp only [List.take_succ_cons, List.take_zero, List.drop_succ_cons, List.drop_zero]
  repeat still_step
  still_call (mono_zipped_73.cl _ _ _)
  still_step
  refine wpStill_nil ?_
  go_wp2
  have HA2 := Aside0.mk (blk_far HA.out (p := ⟨w.heap.size + 1 + 1, 1, none⟩) (by show _ ≠ w.heap.size + 1 + 1; omega) (.int .i64 (mn (x1) (y1))))
  have HB2 := Aside0.mk (blk_far HB.out (p := ⟨w.heap.size + 1 + 1, 1, none⟩) (by show _ ≠ w.heap.size + 1 + 1; omega) (.int .i64 (mn (x1) (y1))))
  have HC2 := Aside0.mk (blk_put (cs' := #[.int .i64 (mn (x0) (y0)), .int .i64 (mn (x1) (y1)), .int .i64 0, .int .i64 0]) HC.out 1 (.int .i64 (mn (x1) (y1))) rfl)
  have HD2 := Aside0.mk (below_set (g := w.heap.size + 1 + 1) (j := 1) (v := .int .i64 (mn (x1) (y1))) HD.out (by omega))
  generalize u1.setCell ⟨w.heap.size + 1 + 1, 1, none⟩ (.int .i64 (mn (x1) (y1))) = v2 at HA2 HB2 HC2 HD2 ⊢
  clear HA HB HC HD ca cb cc cf u1
  rw [rounds_succ]
  go_wp2
  have ca : (v2.drew).cell? ⟨w.heap.size, 2, none⟩ = some (.int .i64 x2) := (blk_cell (blk_drew HA2.out) 2).trans rfl
  have cb : (v2.drew).cell? ⟨w.heap.size + 1, 2, none⟩ = some (.int .i64 y2) := (blk_cell (blk_drew HB2.out) 2).trans rfl
  have cc : (v2.drew).cell? ⟨w.heap.size + 1 + 1, 2, none⟩ = some (.int .i64 0) := (blk_cell (blk_drew HC2.out) 2).trans rfl
  have cf : (v2.drew).frozen? ⟨w.heap.size + 1 + 1, 2, none⟩ = false := blk_frozen (blk_drew HC2.out) 2
  have HA := Aside0.mk (blk_drew HA2.out)
  have HB := Aside0.mk (blk_drew HB2.out)
  have HC := Aside0.mk (blk_drew HC2.out)
  have HD := Aside0.mk (below_drew HD2.out)
  refine wp_region_still_tail 10 (by kernel_rfl) (by kernel_rfl) ?_
  change wpStill Try.prog _ v2.drew (fun a' => wpList Try.prog _ _ _ a' v2.drew) _ _
  generalize v2.drew = u2 at HA HB HC HD ca cb cc cf ⊢
  clear HA2 HB2 HC2 HD2 v2
  simp only [List.take_succ_cons, List.take_zero, List.drop_succ_cons, List.drop_zero]
  repeat still_step
  still_call (mono_zipped_73.cl _ _ _)
  still_step
  refine wpStill_nil ?_
  go_wp2
  have HA3 := Aside0.mk (blk_far HA.out (p := ⟨w.heap.size + 1 + 1, 2, none⟩) (by show _ ≠ w.heap.size + 1 + 1; omega) (.int .i64 (mn (x2) (y2))))
  have HB3 := Aside0.mk (blk_far HB.out (p := ⟨w.heap.size + 1 + 1, 2, none⟩) (by show _ ≠ w.heap.size + 1 + 1; omega) (.int .i64 (mn (x2) (y2))))
  have HC3 := Aside0.mk (blk_put (cs' := #[.int .i64 (mn (x0) (y0)), .int .i64 (mn (x1) (y1)), .int .i64 (mn (x2) (y2)), .int .i64 0]) HC.out 2 (.int .i64 (mn (x2) (y2))) rfl)
  have HD3 := Aside0.mk (below_set (g := w.heap.size + 1 + 1) (j := 2) (v := .int .i64 (mn (x2) (y2))) HD.out (by omega))
  generalize u2.setCell ⟨w.heap.size + 1 + 1, 2, none⟩ (.int .i64 (mn (x2) (y2))) = v3 at HA3 HB3 HC3 HD3 ⊢
  clear HA HB HC HD ca cb cc cf u2
  rw [rounds_succ]
  go_wp2
  have ca : (v3.drew).cell? ⟨w.heap.size, 3, none⟩ = some (.int .i64 x3) := (blk_cell (blk_drew HA3.out) 3).trans rfl
  have cb : (v3.drew).cell? ⟨w.heap.size + 1, 3, none⟩ = some (.int .i64 y3) := (blk_cell (blk_drew HB3.out) 3).trans rfl
  have cc : (v3.drew).cell? ⟨w.heap.size + 1 + 1, 3, none⟩ = some (.int .i64 0) := (blk_cell (blk_drew HC3.out) 3).trans rfl
  have cf : (v3.drew).frozen? ⟨w.heap.size + 1 + 1, 3, none⟩ = false := blk_frozen (blk_drew HC3.out) 3
  have HA := Aside0.mk (blk_drew HA3.out)
  have HB := Aside0.mk (blk_drew HB3.out)
  have HC := Aside0.mk (blk_drew HC3.out)
  have HD := Aside0.mk (below_drew HD3.out)
  refine wp_region_still_tail 10 (by kernel_rfl) (by kernel_rfl) ?_
  change wpStill Try.prog _ v3.drew (fun a' => wpList Try.prog _ _ _ a' v3.drew) _ _
  generalize v3.drew = u3 at HA HB HC HD ca cb cc cf ⊢
  clear HA3 HB3 HC3 HD3 v3
  simp only [List.take_succ_cons, List.take_zero, List.drop_succ_cons, List.drop_zero]
  repeat still_step
  still_call (mono_zipped_73.cl _ _ _)
  still_step
  refine wpStill_nil ?_
  go_wp2
  have HA4 := Aside0.mk (blk_far HA.out (p := ⟨w.heap.size + 1 + 1, 3, none⟩) (by show _ ≠ w.heap.size + 1 + 1; omega) (.int .i64 (mn (x3) (y3))))
  have HB4 := Aside0.mk (blk_far HB.out (p := ⟨w.heap.size + 1 + 1, 3, none⟩) (by show _ ≠ w.heap.size + 1 + 1; omega) (.int .i64 (mn (x3) (y3))))
  have HC4 := Aside0.mk (blk_put (cs' := #[.int .i64 (mn (x0) (y0)), .int .i64 (mn (x1) (y1)), .int .i64 (mn (x2) (y2)), .int .i64 (mn (x3) (y3))]) HC.out 3 (.int .i64 (mn (x3) (y3))) rfl)
  have HD4 := Aside0.mk (below_set (g := w.heap.size + 1 + 1) (j := 3) (v := .int .i64 (mn (x3) (y3))) HD.out (by omega))
  generalize u3.setCell ⟨w.heap.size + 1 + 1, 3, none⟩ (.int .i64 (mn (x3) (y3))) = v4 at HA4 HB4 HC4 HD4 ⊢
  clear HA HB HC HD ca cb cc cf u3
  have c0 : v4.cell? ⟨w.heap.size + 1 + 1, 0, none⟩ = some (.int .i64 (mn (x0) (y0))) := (blk_cell HC4.out 0).trans rfl
  have c1 : v4.cell? ⟨w.heap.size + 1 + 1, 1, none⟩ = some (.int .i64 (mn (x1) (y1))) := (blk_cell HC4.out 1).trans rfl
  have c2 : v4.cell? ⟨w.heap.size + 1 + 1, 2, none⟩ = some (.int .i64 (mn (x2) (y2))) := (blk_cell HC4.out 2).trans rfl
  have c3 : v4.cell? ⟨w.heap.size + 1 + 1, 3, none⟩ = some (.int .i64 (mn (x3) (y3))) := (blk_cell HC4.out 3).trans rfl
  have cf0 : v4.frozen? ⟨w.heap.size + 1 + 1, 0, none⟩ = false := blk_frozen HC4.out 0
  have cf1 : v4.frozen? ⟨w.heap.size + 1 + 1, 1, none⟩ = false := blk_frozen HC4.out 1
  have cf2 : v4.frozen? ⟨w.heap.size + 1 + 1, 2, none⟩ = false := blk_frozen HC4.out 2
  have cf3 : v4.frozen? ⟨w.heap.size + 1 + 1, 3, none⟩ = false := blk_frozen HC4.out 3
  rw [rounds_succ]
  go_wp2
  have HC5 := Aside0.mk (blk_put (cs' := #[.int .i64 (mn (x0) (y0)), .int .i64 (mn (x1) (y1)), .int .i64 (mn (x2) (y2)), .int .i64 (mn (x3) (y3))]) (blk_put (cs' := #[.int .i64 (mn (x0) (y0)), .int .i64 (mn (x1) (y1)), .int .i64 (mn (x2) (y2)), .int .i64 (mn (x3) (y3))]) (blk_put (cs' := #[.int .i64 (mn (x0) (y0)), .int .i64 (mn (x1) (y1)), .int .i64 (mn (x2) (y2)), .int .i64 (mn (x3) (y3))]) (blk_put (cs' := #[.int .i64 (mn (x0) (y0)), .int .i64 (mn (x1) (y1)), .int .i64 (mn (x2) (y2)), .int .i64 (mn (x3) (y3))]) HC4.out 0 (.int .i64 (mn (x0) (y0))) rfl) 1 (.int .i64 (mn (x1) (y1))) rfl) 2 (.int .i64 (mn (x2) (y2))) rfl) 3 (.int .i64 (mn (x3) (y3))) rfl)
  have HD5 := Aside0.mk (below_set (g := w.heap.size + 1 + 1) (j := 3) (v := .int .i64 (mn (x3) (y3))) (below_set (g := w.heap.size + 1 + 1) (j := 2) (v := .int .i64 (mn (x2) (y2))) (below_set (g := w.heap.size + 1 + 1) (j := 1) (v := .int .i64 (mn (x1) (y1))) (below_set (g := w.heap.size + 1 + 1) (j := 0) (v := .int .i64 (mn (x0) (y0))) HD4.out (by omega)) (by omega)) (by omega)) (by omega))
  generalize (((v4.setCell ⟨w.heap.size + 1 + 1, 0, none⟩ (.int .i64 (mn (x0) (y0)))).setCell ⟨w.heap.size + 1 + 1, 1, none⟩ (.int .i64 (mn (x1) (y1)))).setCell ⟨w.heap.size + 1 + 1, 2, none⟩ (.int .i64 (mn (x2) (y2)))).setCell ⟨w.heap.size + 1 + 1, 3, none⟩ (.int .i64 (mn (x3) (y3))) = v5 at HC5 HD5 ⊢
  have d0 : v5.cell? ⟨w.heap.size + 1 + 1, 0, none⟩ = some (.int .i64 (mn (x0) (y0))) := (blk_cell HC5.out 0).trans rfl
  have d1 : v5.cell? ⟨w.heap.size + 1 + 1, 1, none⟩ = some (.int .i64 (mn (x1) (y1))) := (blk_cell HC5.out 1).trans rfl
  have d2 : v5.cell? ⟨w.heap.size + 1 + 1, 2, none⟩ = some (.int .i64 (mn (x2) (y2))) := (blk_cell HC5.out 2).trans rfl
  have d3 : v5.cell? ⟨w.heap.size + 1 + 1, 3, none⟩ = some (.int .i64 (mn (x3) (y3))) := (blk_cell HC5.out 3).trans rfl
  exact bodyPost_ret (v := .agg #[.int .i64 (mn (x0) (y0)), .int .i64 (mn (x1) (y1)), .int .i64 (mn (x2) (y2)), .int .i64 (mn (x3) (y3))]) (by simp [results, Try.results57, go_sem, d0, d1, d2, d3]) rfl ⟨rfl, HD5.out⟩
def mono_zipped_73.f (x0 x1 x2 x3 y0 y1 y2 y3 : Int) : Option (Int × Int × Int × Int) := some ((mn (x0) (y0)), (mn (x1) (y1)), (mn (x2) (y2)), (mn (x3) (y3)))
theorem mono_zipped_73.calls (x0 x1 x2 x3 y0 y1 y2 y3 : Int) (r1 r2 r3 r4 : Int) (w : World) (h : mono_zipped_73.f x0 x1 x2 x3 y0 y1 y2 y3 = some (r1, r2, r3, r4)) :
    Calls Try.prog 57 #[.agg #[.int .i64 x0, .int .i64 x1, .int .i64 x2, .int .i64 x3], .agg #[.int .i64 y0, .int .i64 y1, .int .i64 y2, .int .i64 y3], .func (.func 73) #[] #[]] w fun e w' => e = .returned (.agg #[.int .i64 r1, .int .i64 r2, .int .i64 r3, .int .i64 r4]) ∧ Below w.heap.size w w' := by
  have h := Option.some.inj h
  simp only [Prod.mk.injEq] at h
  obtain ⟨rfl, rfl, rfl, rfl⟩ := h
  exact mono_zipped_73.calls_ x0 x1 x2 x3 y0 y1 y2 y3 w

-- NOT PRINTED: function 58 (mono_Mul_1)

end Go.Proofs.Ytmknpclfanblfaa.POMonoArgs
