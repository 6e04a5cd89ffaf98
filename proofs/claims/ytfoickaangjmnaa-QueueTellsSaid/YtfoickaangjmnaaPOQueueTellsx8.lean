-- Written by a program of this session (pr.py, over the kit's print.py).
import Derived.Test.YtfoickaangjmnaaPOQueueTellsx0
import Derived.Test.YtfoickaangjmnaaPOQueueTellsx7
namespace Go.Proofs.Ytfoickaangjmnaa.POQueueTells
open Go.RowKit Go.Proofs.YtfoickaangjmnaaN Go.Proofs.YtfoickaangjmnaaW.PrintWords Go.Proofs.YtfoickaangjmnaaW.PrintLast Go.Proofs.YtfoickaangjmnaaW.PrintMore
attribute [local go_sem] max2_int min2_int max_two min_two max_three min_three max_four min_four   -- for this text's walks alone
set_option linter.unusedVariables false
set_option linter.unusedSimpArgs false

/-! ### syzygyref08_Lcm: function 22 -/
section
theorem max2_mx8 (k k' : IntKind) (x y : Int) : Builtin.max2 (.int k x) (.int k' y) = pure (.int k (mx x y)) := max2_int k k' x y
attribute [local go_sem high] max2_mx8
def syzygyref08_Lcm.v (x0 x1 x2 x3 y0 y1 y2 y3 : Int) : Int × Int × Int × Int := cond (syzygyref08_May.v x0 x1 x2 x3) (cond (syzygyref08_May.v y0 y1 y2 y3) (mx x0 y0, mx x1 y1, mx x2 y2, mx x3 y3) (0, 0, 0, 0)) (0, 0, 0, 0)
set_option maxHeartbeats 4000000 in
set_option maxRecDepth 100000 in
theorem syzygyref08_Lcm.calls_ (x0 x1 x2 x3 y0 y1 y2 y3 : Int) (w : World) : Calls Try.prog 22 #[.agg #[.int .i64 x0, .int .i64 x1, .int .i64 x2, .int .i64 x3], .agg #[.int .i64 y0, .int .i64 y1, .int .i64 y2, .int .i64 y3]] w fun e w' => e = .returned (match syzygyref08_Lcm.v x0 x1 x2 x3 y0 y1 y2 y3 with | (r0, r1, r2, r3) => .agg #[.int .i64 r0, .int .i64 r1, .int .i64 r2, .int .i64 r3]) ∧ Below w.heap.size w w' := by
  unfold syzygyref08_Lcm.v
  have HM := Aside0.mk (syzygyref08_May.calls_ x0 x1 x2 x3)
  have HN := Aside0.mk (syzygyref08_May.calls_ y0 y1 y2 y3)
  have hA := blk_alloc (blk_alloc (blk_alloc (blk_new w (.cells #[.int .i64 x0, .int .i64 x1, .int .i64 x2, .int .i64 x3] 36)) (.cells #[.int .i64 y0, .int .i64 y1, .int .i64 y2, .int .i64 y3] 36)) (.cells #[.int .i64 0, .int .i64 0, .int .i64 0, .int .i64 0] 36)) (.cells #[.int .i64 0, .int .i64 0, .int .i64 0, .int .i64 0] 36)
  have hB := blk_alloc (blk_alloc (blk_new (w.alloc (.cells #[.int .i64 x0, .int .i64 x1, .int .i64 x2, .int .i64 x3] 36)) (.cells #[.int .i64 y0, .int .i64 y1, .int .i64 y2, .int .i64 y3] 36)) (.cells #[.int .i64 0, .int .i64 0, .int .i64 0, .int .i64 0] 36)) (.cells #[.int .i64 0, .int .i64 0, .int .i64 0, .int .i64 0] 36)
  have hR := blk_alloc (blk_new ((w.alloc (.cells #[.int .i64 x0, .int .i64 x1, .int .i64 x2, .int .i64 x3] 36)).alloc (.cells #[.int .i64 y0, .int .i64 y1, .int .i64 y2, .int .i64 y3] 36)) (.cells #[.int .i64 0, .int .i64 0, .int .i64 0, .int .i64 0] 36)) (.cells #[.int .i64 0, .int .i64 0, .int .i64 0, .int .i64 0] 36)
  have hO := blk_new (((w.alloc (.cells #[.int .i64 x0, .int .i64 x1, .int .i64 x2, .int .i64 x3] 36)).alloc (.cells #[.int .i64 y0, .int .i64 y1, .int .i64 y2, .int .i64 y3] 36)).alloc (.cells #[.int .i64 0, .int .i64 0, .int .i64 0, .int .i64 0] 36)) (.cells #[.int .i64 0, .int .i64 0, .int .i64 0, .int .i64 0] 36)
  have hD := below_alloc (below_alloc (below_alloc (below_alloc (Below.refl _ w) (.cells #[.int .i64 x0, .int .i64 x1, .int .i64 x2, .int .i64 x3] 36)) (.cells #[.int .i64 y0, .int .i64 y1, .int .i64 y2, .int .i64 y3] 36)) (.cells #[.int .i64 0, .int .i64 0, .int .i64 0, .int .i64 0] 36)) (.cells #[.int .i64 0, .int .i64 0, .int .i64 0, .int .i64 0] 36)
  simp only [World.size_alloc] at hA hB hR hO
  have HA0 := Aside0.mk hA
  have HB0 := Aside0.mk hB
  have HR0 := Aside0.mk hR
  have HO0 := Aside0.mk hO
  have HD0 := Aside0.mk hD
  clear hA hB hR hO hD
  cases hv : syzygyref08_May.v x0 x1 x2 x3 with
  | false =>
    simp only [cond_false]
    go_enter Try.func22, Try.ntmps22
    go_wp2_with fail
    generalize (((w.alloc (.cells #[.int .i64 x0, .int .i64 x1, .int .i64 x2, .int .i64 x3] 36)).alloc (.cells #[.int .i64 y0, .int .i64 y1, .int .i64 y2, .int .i64 y3] 36)).alloc (.cells #[.int .i64 0, .int .i64 0, .int .i64 0, .int .i64 0] 36)).alloc (.cells #[.int .i64 0, .int .i64 0, .int .i64 0, .int .i64 0] 36) = t0 at HA0 HB0 HR0 HO0 HD0 ⊢
    obtain ⟨z0, z1, z2, z3⟩ := cells4 HO0.out
    have y_0 : t0.frozen? ⟨w.heap.size + 1 + 1 + 1, 0, none⟩ = false := blk_frozen HO0.out 0
    have y_1 : t0.frozen? ⟨w.heap.size + 1 + 1 + 1, 1, none⟩ = false := blk_frozen HO0.out 1
    have y_2 : t0.frozen? ⟨w.heap.size + 1 + 1 + 1, 2, none⟩ = false := blk_frozen HO0.out 2
    have y_3 : t0.frozen? ⟨w.heap.size + 1 + 1 + 1, 3, none⟩ = false := blk_frozen HO0.out 3
    obtain ⟨a0, a1, a2, a3⟩ := cells4 HA0.out
    go_wp2_with fail
    refine (HM.out t0).mono ?_
    rw [hv]
    rintro e t1 ⟨rfl, hb⟩
    have HA1 := Aside0.mk (blk_below HA0.out hb)
    have HB1 := Aside0.mk (blk_below HB0.out hb)
    have HR1 := Aside0.mk (blk_below HR0.out hb)
    have HO1 := Aside0.mk (blk_below HO0.out hb)
    have HD1 := Aside0.mk (HD0.out.trans (hb.mono HD0.out.size))
    clear hb HA0 HB0 HR0 HO0 HD0
    clear z0 z1 z2 z3 y_0 y_1 y_2 y_3 a0 a1 a2 a3
    obtain ⟨o0, o1, o2, o3⟩ := cells4 HO1.out
    have f0 : t1.frozen? ⟨w.heap.size + 1 + 1, 0, none⟩ = false := blk_frozen HR1.out 0
    have f1 : t1.frozen? ⟨w.heap.size + 1 + 1, 1, none⟩ = false := blk_frozen HR1.out 1
    have f2 : t1.frozen? ⟨w.heap.size + 1 + 1, 2, none⟩ = false := blk_frozen HR1.out 2
    have f3 : t1.frozen? ⟨w.heap.size + 1 + 1, 3, none⟩ = false := blk_frozen HR1.out 3
    obtain ⟨r0, r1, r2, r3⟩ := cells4 HR1.out
    go_wp2
    have HR5 := Aside0.mk (blk_put (cs' := #[.int .i64 0, .int .i64 0, .int .i64 0, .int .i64 0]) (blk_put (cs' := #[.int .i64 0, .int .i64 0, .int .i64 0, .int .i64 0]) (blk_put (cs' := #[.int .i64 0, .int .i64 0, .int .i64 0, .int .i64 0]) (blk_put (cs' := #[.int .i64 0, .int .i64 0, .int .i64 0, .int .i64 0]) HR1.out 0 (.int .i64 0) rfl) 1 (.int .i64 0) rfl) 2 (.int .i64 0) rfl) 3 (.int .i64 0) rfl)
    have HD5 := Aside0.mk (Below.setCell (Below.setCell (Below.setCell (Below.setCell HD1.out (p := ⟨w.heap.size + 1 + 1, 0, none⟩) (by show w.heap.size ≤ w.heap.size + 1 + 1; omega) (.int .i64 0)) (p := ⟨w.heap.size + 1 + 1, 1, none⟩) (by show w.heap.size ≤ w.heap.size + 1 + 1; omega) (.int .i64 0)) (p := ⟨w.heap.size + 1 + 1, 2, none⟩) (by show w.heap.size ≤ w.heap.size + 1 + 1; omega) (.int .i64 0)) (p := ⟨w.heap.size + 1 + 1, 3, none⟩) (by show w.heap.size ≤ w.heap.size + 1 + 1; omega) (.int .i64 0))
    generalize (((t1.setCell ⟨w.heap.size + 1 + 1, 0, none⟩ (.int .i64 0)).setCell ⟨w.heap.size + 1 + 1, 1, none⟩ (.int .i64 0)).setCell ⟨w.heap.size + 1 + 1, 2, none⟩ (.int .i64 0)).setCell ⟨w.heap.size + 1 + 1, 3, none⟩ (.int .i64 0) = v9 at HR5 HD5 ⊢
    obtain ⟨d0, d1, d2, d3⟩ := cells4 HR5.out
    exact bodyPost_ret (v := .agg #[.int .i64 0, .int .i64 0, .int .i64 0, .int .i64 0]) (by simp [results, Try.results22, go_sem, d0, d1, d2, d3]) rfl ⟨rfl, HD5.out⟩
  | true =>
    cases hu : syzygyref08_May.v y0 y1 y2 y3 with
    | false =>
      simp only [cond_true, cond_false]
      go_enter Try.func22, Try.ntmps22
      go_wp2_with fail
      generalize (((w.alloc (.cells #[.int .i64 x0, .int .i64 x1, .int .i64 x2, .int .i64 x3] 36)).alloc (.cells #[.int .i64 y0, .int .i64 y1, .int .i64 y2, .int .i64 y3] 36)).alloc (.cells #[.int .i64 0, .int .i64 0, .int .i64 0, .int .i64 0] 36)).alloc (.cells #[.int .i64 0, .int .i64 0, .int .i64 0, .int .i64 0] 36) = t0 at HA0 HB0 HR0 HO0 HD0 ⊢
      obtain ⟨z0, z1, z2, z3⟩ := cells4 HO0.out
      have y_0 : t0.frozen? ⟨w.heap.size + 1 + 1 + 1, 0, none⟩ = false := blk_frozen HO0.out 0
      have y_1 : t0.frozen? ⟨w.heap.size + 1 + 1 + 1, 1, none⟩ = false := blk_frozen HO0.out 1
      have y_2 : t0.frozen? ⟨w.heap.size + 1 + 1 + 1, 2, none⟩ = false := blk_frozen HO0.out 2
      have y_3 : t0.frozen? ⟨w.heap.size + 1 + 1 + 1, 3, none⟩ = false := blk_frozen HO0.out 3
      obtain ⟨a0, a1, a2, a3⟩ := cells4 HA0.out
      go_wp2_with fail
      refine (HM.out t0).mono ?_
      rw [hv]
      rintro e t1 ⟨rfl, hb⟩
      have HA1 := Aside0.mk (blk_below HA0.out hb)
      have HB1 := Aside0.mk (blk_below HB0.out hb)
      have HR1 := Aside0.mk (blk_below HR0.out hb)
      have HO1 := Aside0.mk (blk_below HO0.out hb)
      have HD1 := Aside0.mk (HD0.out.trans (hb.mono HD0.out.size))
      clear hb HA0 HB0 HR0 HO0 HD0
      clear z0 z1 z2 z3 y_0 y_1 y_2 y_3 a0 a1 a2 a3
      obtain ⟨b0, b1, b2, b3⟩ := cells4 HB1.out
      go_wp2_with fail
      refine (HN.out t1).mono ?_
      rw [hu]
      rintro e t2 ⟨rfl, hb⟩
      have HA2 := Aside0.mk (blk_below HA1.out hb)
      have HB2 := Aside0.mk (blk_below HB1.out hb)
      have HR2 := Aside0.mk (blk_below HR1.out hb)
      have HO2 := Aside0.mk (blk_below HO1.out hb)
      have HD2 := Aside0.mk (HD1.out.trans (hb.mono HD1.out.size))
      clear hb HA1 HB1 HR1 HO1 HD1
      clear b0 b1 b2 b3
      obtain ⟨o0, o1, o2, o3⟩ := cells4 HO2.out
      have f0 : t2.frozen? ⟨w.heap.size + 1 + 1, 0, none⟩ = false := blk_frozen HR2.out 0
      have f1 : t2.frozen? ⟨w.heap.size + 1 + 1, 1, none⟩ = false := blk_frozen HR2.out 1
      have f2 : t2.frozen? ⟨w.heap.size + 1 + 1, 2, none⟩ = false := blk_frozen HR2.out 2
      have f3 : t2.frozen? ⟨w.heap.size + 1 + 1, 3, none⟩ = false := blk_frozen HR2.out 3
      obtain ⟨r0, r1, r2, r3⟩ := cells4 HR2.out
      go_wp2
      have HR5 := Aside0.mk (blk_put (cs' := #[.int .i64 0, .int .i64 0, .int .i64 0, .int .i64 0]) (blk_put (cs' := #[.int .i64 0, .int .i64 0, .int .i64 0, .int .i64 0]) (blk_put (cs' := #[.int .i64 0, .int .i64 0, .int .i64 0, .int .i64 0]) (blk_put (cs' := #[.int .i64 0, .int .i64 0, .int .i64 0, .int .i64 0]) HR2.out 0 (.int .i64 0) rfl) 1 (.int .i64 0) rfl) 2 (.int .i64 0) rfl) 3 (.int .i64 0) rfl)
      have HD5 := Aside0.mk (Below.setCell (Below.setCell (Below.setCell (Below.setCell HD2.out (p := ⟨w.heap.size + 1 + 1, 0, none⟩) (by show w.heap.size ≤ w.heap.size + 1 + 1; omega) (.int .i64 0)) (p := ⟨w.heap.size + 1 + 1, 1, none⟩) (by show w.heap.size ≤ w.heap.size + 1 + 1; omega) (.int .i64 0)) (p := ⟨w.heap.size + 1 + 1, 2, none⟩) (by show w.heap.size ≤ w.heap.size + 1 + 1; omega) (.int .i64 0)) (p := ⟨w.heap.size + 1 + 1, 3, none⟩) (by show w.heap.size ≤ w.heap.size + 1 + 1; omega) (.int .i64 0))
      generalize (((t2.setCell ⟨w.heap.size + 1 + 1, 0, none⟩ (.int .i64 0)).setCell ⟨w.heap.size + 1 + 1, 1, none⟩ (.int .i64 0)).setCell ⟨w.heap.size + 1 + 1, 2, none⟩ (.int .i64 0)).setCell ⟨w.heap.size + 1 + 1, 3, none⟩ (.int .i64 0) = v9 at HR5 HD5 ⊢
      obtain ⟨d0, d1, d2, d3⟩ := cells4 HR5.out
      exact bodyPost_ret (v := .agg #[.int .i64 0, .int .i64 0, .int .i64 0, .int .i64 0]) (by simp [results, Try.results22, go_sem, d0, d1, d2, d3]) rfl ⟨rfl, HD5.out⟩
    | true =>
      simp only [cond_true]
      go_enter Try.func22, Try.ntmps22
      go_wp2_with fail
      generalize (((w.alloc (.cells #[.int .i64 x0, .int .i64 x1, .int .i64 x2, .int .i64 x3] 36)).alloc (.cells #[.int .i64 y0, .int .i64 y1, .int .i64 y2, .int .i64 y3] 36)).alloc (.cells #[.int .i64 0, .int .i64 0, .int .i64 0, .int .i64 0] 36)).alloc (.cells #[.int .i64 0, .int .i64 0, .int .i64 0, .int .i64 0] 36) = t0 at HA0 HB0 HR0 HO0 HD0 ⊢
      obtain ⟨z0, z1, z2, z3⟩ := cells4 HO0.out
      have y_0 : t0.frozen? ⟨w.heap.size + 1 + 1 + 1, 0, none⟩ = false := blk_frozen HO0.out 0
      have y_1 : t0.frozen? ⟨w.heap.size + 1 + 1 + 1, 1, none⟩ = false := blk_frozen HO0.out 1
      have y_2 : t0.frozen? ⟨w.heap.size + 1 + 1 + 1, 2, none⟩ = false := blk_frozen HO0.out 2
      have y_3 : t0.frozen? ⟨w.heap.size + 1 + 1 + 1, 3, none⟩ = false := blk_frozen HO0.out 3
      obtain ⟨a0, a1, a2, a3⟩ := cells4 HA0.out
      go_wp2_with fail
      refine (HM.out t0).mono ?_
      rw [hv]
      rintro e t1 ⟨rfl, hb⟩
      have HA1 := Aside0.mk (blk_below HA0.out hb)
      have HB1 := Aside0.mk (blk_below HB0.out hb)
      have HR1 := Aside0.mk (blk_below HR0.out hb)
      have HO1 := Aside0.mk (blk_below HO0.out hb)
      have HD1 := Aside0.mk (HD0.out.trans (hb.mono HD0.out.size))
      clear hb HA0 HB0 HR0 HO0 HD0
      clear z0 z1 z2 z3 y_0 y_1 y_2 y_3 a0 a1 a2 a3
      obtain ⟨b0, b1, b2, b3⟩ := cells4 HB1.out
      go_wp2_with fail
      refine (HN.out t1).mono ?_
      rw [hu]
      rintro e t2 ⟨rfl, hb⟩
      have HA2 := Aside0.mk (blk_below HA1.out hb)
      have HB2 := Aside0.mk (blk_below HB1.out hb)
      have HR2 := Aside0.mk (blk_below HR1.out hb)
      have HO2 := Aside0.mk (blk_below HO1.out hb)
      have HD2 := Aside0.mk (HD1.out.trans (hb.mono HD1.out.size))
      clear hb HA1 HB1 HR1 HO1 HD1
      clear b0 b1 b2 b3
      go_wp2_with fail
      have HA := Aside0.mk HA2.out
      have HB := Aside0.mk HB2.out
      have HR := Aside0.mk HR2.out
      have HO := Aside0.mk HO2.out
      have HD := Aside0.mk HD2.out
      clear HA2 HB2 HR2 HO2 HD2
      refine wp_loop_rounds 5 ?_
      rw [rounds_succ]
      go_wp2
      have ca : (t2.drew).cell? ⟨w.heap.size, 0, none⟩ = some (.int .i64 x0) := (blk_cell (blk_drew HA.out) 0).trans rfl
      have cb : (t2.drew).cell? ⟨w.heap.size + 1, 0, none⟩ = some (.int .i64 y0) := (blk_cell (blk_drew HB.out) 0).trans rfl
      have cc : (t2.drew).cell? ⟨w.heap.size + 1 + 1 + 1, 0, none⟩ = some (.int .i64 0) := (blk_cell (blk_drew HO.out) 0).trans rfl
      have cf : (t2.drew).frozen? ⟨w.heap.size + 1 + 1 + 1, 0, none⟩ = false := blk_frozen (blk_drew HO.out) 0
      have KA := Aside0.mk (blk_drew HA.out)
      have KB := Aside0.mk (blk_drew HB.out)
      have KO := Aside0.mk (blk_drew HO.out)
      have KR := Aside0.mk (blk_drew HR.out)
      have KD := Aside0.mk (below_drew HD.out)
      refine wp_region_still_tail 9 (by kernel_rfl) (by kernel_rfl) ?_
      change wpStill Try.prog _ t2.drew (fun a' => wpList Try.prog _ _ _ a' t2.drew) _ _
      generalize t2.drew = u0 at KA KB KO KR KD ca cb cc cf ⊢
      clear HA HB HO HR HD
      simp only [List.take_succ_cons, List.take_zero, List.drop_succ_cons, List.drop_zero]
      repeat still_step
      refine wpStill_nil ?_
      go_wp2
      have HA := Aside0.mk (blk_far KA.out (p := ⟨w.heap.size + 1 + 1 + 1, 0, none⟩) (by show _ ≠ w.heap.size + 1 + 1 + 1; omega) (.int .i64 (mx x0 y0)))
      have HB := Aside0.mk (blk_far KB.out (p := ⟨w.heap.size + 1 + 1 + 1, 0, none⟩) (by show _ ≠ w.heap.size + 1 + 1 + 1; omega) (.int .i64 (mx x0 y0)))
      have HR := Aside0.mk (blk_far KR.out (p := ⟨w.heap.size + 1 + 1 + 1, 0, none⟩) (by show _ ≠ w.heap.size + 1 + 1 + 1; omega) (.int .i64 (mx x0 y0)))
      have HO := Aside0.mk (blk_put (cs' := #[.int .i64 (mx x0 y0), .int .i64 0, .int .i64 0, .int .i64 0]) KO.out 0 (.int .i64 (mx x0 y0)) rfl)
      have HD := Aside0.mk (Below.setCell KD.out (p := ⟨w.heap.size + 1 + 1 + 1, 0, none⟩) (by show w.heap.size ≤ w.heap.size + 1 + 1 + 1; omega) (.int .i64 (mx x0 y0)))
      generalize u0.setCell ⟨w.heap.size + 1 + 1 + 1, 0, none⟩ (.int .i64 (mx x0 y0)) = v1 at HA HB HO HR HD ⊢
      clear KA KB KO KR KD ca cb cc cf
      rw [rounds_succ]
      go_wp2
      have ca : (v1.drew).cell? ⟨w.heap.size, 1, none⟩ = some (.int .i64 x1) := (blk_cell (blk_drew HA.out) 1).trans rfl
      have cb : (v1.drew).cell? ⟨w.heap.size + 1, 1, none⟩ = some (.int .i64 y1) := (blk_cell (blk_drew HB.out) 1).trans rfl
      have cc : (v1.drew).cell? ⟨w.heap.size + 1 + 1 + 1, 1, none⟩ = some (.int .i64 0) := (blk_cell (blk_drew HO.out) 1).trans rfl
      have cf : (v1.drew).frozen? ⟨w.heap.size + 1 + 1 + 1, 1, none⟩ = false := blk_frozen (blk_drew HO.out) 1
      have KA := Aside0.mk (blk_drew HA.out)
      have KB := Aside0.mk (blk_drew HB.out)
      have KO := Aside0.mk (blk_drew HO.out)
      have KR := Aside0.mk (blk_drew HR.out)
      have KD := Aside0.mk (below_drew HD.out)
      refine wp_region_still_tail 9 (by kernel_rfl) (by kernel_rfl) ?_
      change wpStill Try.prog _ v1.drew (fun a' => wpList Try.prog _ _ _ a' v1.drew) _ _
      generalize v1.drew = u1 at KA KB KO KR KD ca cb cc cf ⊢
      clear HA HB HO HR HD
      simp only [List.take_succ_cons, List.take_zero, List.drop_succ_cons, List.drop_zero]
      repeat still_step
      refine wpStill_nil ?_
      go_wp2
      have HA := Aside0.mk (blk_far KA.out (p := ⟨w.heap.size + 1 + 1 + 1, 1, none⟩) (by show _ ≠ w.heap.size + 1 + 1 + 1; omega) (.int .i64 (mx x1 y1)))
      have HB := Aside0.mk (blk_far KB.out (p := ⟨w.heap.size + 1 + 1 + 1, 1, none⟩) (by show _ ≠ w.heap.size + 1 + 1 + 1; omega) (.int .i64 (mx x1 y1)))
      have HR := Aside0.mk (blk_far KR.out (p := ⟨w.heap.size + 1 + 1 + 1, 1, none⟩) (by show _ ≠ w.heap.size + 1 + 1 + 1; omega) (.int .i64 (mx x1 y1)))
      have HO := Aside0.mk (blk_put (cs' := #[.int .i64 (mx x0 y0), .int .i64 (mx x1 y1), .int .i64 0, .int .i64 0]) KO.out 1 (.int .i64 (mx x1 y1)) rfl)
      have HD := Aside0.mk (Below.setCell KD.out (p := ⟨w.heap.size + 1 + 1 + 1, 1, none⟩) (by show w.heap.size ≤ w.heap.size + 1 + 1 + 1; omega) (.int .i64 (mx x1 y1)))
      generalize u1.setCell ⟨w.heap.size + 1 + 1 + 1, 1, none⟩ (.int .i64 (mx x1 y1)) = v2 at HA HB HO HR HD ⊢
      clear KA KB KO KR KD ca cb cc cf
      rw [rounds_succ]
      go_wp2
      have ca : (v2.drew).cell? ⟨w.heap.size, 2, none⟩ = some (.int .i64 x2) := (blk_cell (blk_drew HA.out) 2).trans rfl
      have cb : (v2.drew).cell? ⟨w.heap.size + 1, 2, none⟩ = some (.int .i64 y2) := (blk_cell (blk_drew HB.out) 2).trans rfl
      have cc : (v2.drew).cell? ⟨w.heap.size + 1 + 1 + 1, 2, none⟩ = some (.int .i64 0) := (blk_cell (blk_drew HO.out) 2).trans rfl
      have cf : (v2.drew).frozen? ⟨w.heap.size + 1 + 1 + 1, 2, none⟩ = false := blk_frozen (blk_drew HO.out) 2
      have KA := Aside0.mk (blk_drew HA.out)
      have KB := Aside0.mk (blk_drew HB.out)
      have KO := Aside0.mk (blk_drew HO.out)
      have KR := Aside0.mk (blk_drew HR.out)
      have KD := Aside0.mk (below_drew HD.out)
      refine wp_region_still_tail 9 (by kernel_rfl) (by kernel_rfl) ?_
      change wpStill Try.prog _ v2.drew (fun a' => wpList Try.prog _ _ _ a' v2.drew) _ _
      generalize v2.drew = u2 at KA KB KO KR KD ca cb cc cf ⊢
      clear HA HB HO HR HD
      simp only [List.take_succ_cons, List.take_zero, List.drop_succ_cons, List.drop_zero]
      repeat still_step
      refine wpStill_nil ?_
      go_wp2
      have HA := Aside0.mk (blk_far KA.out (p := ⟨w.heap.size + 1 + 1 + 1, 2, none⟩) (by show _ ≠ w.heap.size + 1 + 1 + 1; omega) (.int .i64 (mx x2 y2)))
      have HB := Aside0.mk (blk_far KB.out (p := ⟨w.heap.size + 1 + 1 + 1, 2, none⟩) (by show _ ≠ w.heap.size + 1 + 1 + 1; omega) (.int .i64 (mx x2 y2)))
      have HR := Aside0.mk (blk_far KR.out (p := ⟨w.heap.size + 1 + 1 + 1, 2, none⟩) (by show _ ≠ w.heap.size + 1 + 1 + 1; omega) (.int .i64 (mx x2 y2)))
      have HO := Aside0.mk (blk_put (cs' := #[.int .i64 (mx x0 y0), .int .i64 (mx x1 y1), .int .i64 (mx x2 y2), .int .i64 0]) KO.out 2 (.int .i64 (mx x2 y2)) rfl)
      have HD := Aside0.mk (Below.setCell KD.out (p := ⟨w.heap.size + 1 + 1 + 1, 2, none⟩) (by show w.heap.size ≤ w.heap.size + 1 + 1 + 1; omega) (.int .i64 (mx x2 y2)))
      generalize u2.setCell ⟨w.heap.size + 1 + 1 + 1, 2, none⟩ (.int .i64 (mx x2 y2)) = v3 at HA HB HO HR HD ⊢
      clear KA KB KO KR KD ca cb cc cf
      rw [rounds_succ]
      go_wp2
      have ca : (v3.drew).cell? ⟨w.heap.size, 3, none⟩ = some (.int .i64 x3) := (blk_cell (blk_drew HA.out) 3).trans rfl
      have cb : (v3.drew).cell? ⟨w.heap.size + 1, 3, none⟩ = some (.int .i64 y3) := (blk_cell (blk_drew HB.out) 3).trans rfl
      have cc : (v3.drew).cell? ⟨w.heap.size + 1 + 1 + 1, 3, none⟩ = some (.int .i64 0) := (blk_cell (blk_drew HO.out) 3).trans rfl
      have cf : (v3.drew).frozen? ⟨w.heap.size + 1 + 1 + 1, 3, none⟩ = false := blk_frozen (blk_drew HO.out) 3
      have KA := Aside0.mk (blk_drew HA.out)
      have KB := Aside0.mk (blk_drew HB.out)
      have KO := Aside0.mk (blk_drew HO.out)
      have KR := Aside0.mk (blk_drew HR.out)
      have KD := Aside0.mk (below_drew HD.out)
      refine wp_region_still_tail 9 (by kernel_rfl) (by kernel_rfl) ?_
      change wpStill Try.prog _ v3.drew (fun a' => wpList Try.prog _ _ _ a' v3.drew) _ _
      generalize v3.drew = u3 at KA KB KO KR KD ca cb cc cf ⊢
      clear HA HB HO HR HD
      simp only [List.take_succ_cons, List.take_zero, List.drop_succ_cons, List.drop_zero]
      repeat still_step
      refine wpStill_nil ?_
      go_wp2
      have HA := Aside0.mk (blk_far KA.out (p := ⟨w.heap.size + 1 + 1 + 1, 3, none⟩) (by show _ ≠ w.heap.size + 1 + 1 + 1; omega) (.int .i64 (mx x3 y3)))
      have HB := Aside0.mk (blk_far KB.out (p := ⟨w.heap.size + 1 + 1 + 1, 3, none⟩) (by show _ ≠ w.heap.size + 1 + 1 + 1; omega) (.int .i64 (mx x3 y3)))
      have HR := Aside0.mk (blk_far KR.out (p := ⟨w.heap.size + 1 + 1 + 1, 3, none⟩) (by show _ ≠ w.heap.size + 1 + 1 + 1; omega) (.int .i64 (mx x3 y3)))
      have HO := Aside0.mk (blk_put (cs' := #[.int .i64 (mx x0 y0), .int .i64 (mx x1 y1), .int .i64 (mx x2 y2), .int .i64 (mx x3 y3)]) KO.out 3 (.int .i64 (mx x3 y3)) rfl)
      have HD := Aside0.mk (Below.setCell KD.out (p := ⟨w.heap.size + 1 + 1 + 1, 3, none⟩) (by show w.heap.size ≤ w.heap.size + 1 + 1 + 1; omega) (.int .i64 (mx x3 y3)))
      generalize u3.setCell ⟨w.heap.size + 1 + 1 + 1, 3, none⟩ (.int .i64 (mx x3 y3)) = v4 at HA HB HO HR HD ⊢
      clear KA KB KO KR KD ca cb cc cf
      rw [rounds_succ]
      obtain ⟨o0, o1, o2, o3⟩ := cells4 HO.out
      have f0 : v4.frozen? ⟨w.heap.size + 1 + 1, 0, none⟩ = false := blk_frozen HR.out 0
      have f1 : v4.frozen? ⟨w.heap.size + 1 + 1, 1, none⟩ = false := blk_frozen HR.out 1
      have f2 : v4.frozen? ⟨w.heap.size + 1 + 1, 2, none⟩ = false := blk_frozen HR.out 2
      have f3 : v4.frozen? ⟨w.heap.size + 1 + 1, 3, none⟩ = false := blk_frozen HR.out 3
      obtain ⟨r0, r1, r2, r3⟩ := cells4 HR.out
      go_wp2
      have HR5 := Aside0.mk (blk_put (cs' := #[.int .i64 (mx x0 y0), .int .i64 (mx x1 y1), .int .i64 (mx x2 y2), .int .i64 (mx x3 y3)]) (blk_put (cs' := #[.int .i64 (mx x0 y0), .int .i64 (mx x1 y1), .int .i64 (mx x2 y2), .int .i64 0]) (blk_put (cs' := #[.int .i64 (mx x0 y0), .int .i64 (mx x1 y1), .int .i64 0, .int .i64 0]) (blk_put (cs' := #[.int .i64 (mx x0 y0), .int .i64 0, .int .i64 0, .int .i64 0]) HR.out 0 (.int .i64 (mx x0 y0)) rfl) 1 (.int .i64 (mx x1 y1)) rfl) 2 (.int .i64 (mx x2 y2)) rfl) 3 (.int .i64 (mx x3 y3)) rfl)
      have HD5 := Aside0.mk (Below.setCell (Below.setCell (Below.setCell (Below.setCell HD.out (p := ⟨w.heap.size + 1 + 1, 0, none⟩) (by show w.heap.size ≤ w.heap.size + 1 + 1; omega) (.int .i64 (mx x0 y0))) (p := ⟨w.heap.size + 1 + 1, 1, none⟩) (by show w.heap.size ≤ w.heap.size + 1 + 1; omega) (.int .i64 (mx x1 y1))) (p := ⟨w.heap.size + 1 + 1, 2, none⟩) (by show w.heap.size ≤ w.heap.size + 1 + 1; omega) (.int .i64 (mx x2 y2))) (p := ⟨w.heap.size + 1 + 1, 3, none⟩) (by show w.heap.size ≤ w.heap.size + 1 + 1; omega) (.int .i64 (mx x3 y3)))
      generalize (((v4.setCell ⟨w.heap.size + 1 + 1, 0, none⟩ (.int .i64 (mx x0 y0))).setCell ⟨w.heap.size + 1 + 1, 1, none⟩ (.int .i64 (mx x1 y1))).setCell ⟨w.heap.size + 1 + 1, 2, none⟩ (.int .i64 (mx x2 y2))).setCell ⟨w.heap.size + 1 + 1, 3, none⟩ (.int .i64 (mx x3 y3)) = v9 at HR5 HD5 ⊢
      obtain ⟨d0, d1, d2, d3⟩ := cells4 HR5.out
      exact bodyPost_ret (v := .agg #[.int .i64 (mx x0 y0), .int .i64 (mx x1 y1), .int .i64 (mx x2 y2), .int .i64 (mx x3 y3)]) (by simp [results, Try.results22, go_sem, d0, d1, d2, d3]) rfl ⟨rfl, HD5.out⟩
def syzygyref08_Lcm.f (x0 x1 x2 x3 y0 y1 y2 y3 : Int) : Option (Int × Int × Int × Int) := some (syzygyref08_Lcm.v x0 x1 x2 x3 y0 y1 y2 y3)
theorem syzygyref08_Lcm.calls (x0 x1 x2 x3 y0 y1 y2 y3 : Int) (r1 r2 r3 r4 : Int) (w : World) (h : syzygyref08_Lcm.f x0 x1 x2 x3 y0 y1 y2 y3 = some (r1, r2, r3, r4)) :
    Calls Try.prog 22 #[.agg #[.int .i64 x0, .int .i64 x1, .int .i64 x2, .int .i64 x3], .agg #[.int .i64 y0, .int .i64 y1, .int .i64 y2, .int .i64 y3]] w fun e w' => e = .returned (.agg #[.int .i64 r1, .int .i64 r2, .int .i64 r3, .int .i64 r4]) ∧ Below w.heap.size w w' := by
  have h := Option.some.inj h
  have := syzygyref08_Lcm.calls_ x0 x1 x2 x3 y0 y1 y2 y3 w
  rw [h] at this
  exact this
end

/-! ### syzygyref08_sign: function 57 -/
def syzygyref08_sign.f (a0 : Int) : Option (Int) := if a0 < 0 then (some (-1)) else (if a0 > 0 then (some 1) else (some 0))
set_option maxHeartbeats 8000000 in
set_option maxRecDepth 100000 in
theorem syzygyref08_sign.calls (a0 : Int) (r : Int) (w : World) (h : syzygyref08_sign.f a0 = some r) :
    Calls Try.prog 57 #[.int .i64 a0] w fun e w' => e = .returned (.int .i64 r) ∧ Drawn0 w w' := by
  have H : (if a0 < 0 then (some (-1)) else (if a0 > 0 then (some 1) else (some 0))) = some r := h
  clear h
  by_cases c2 : a0 < 0
  · rw [if_pos c2] at H
    have c2b0 : decide (a0 < 0) = true := decide_eq_true c2
    clear c2
    obtain rfl := Option.some.inj H
    go_enter Try.func57, Try.ntmps57
    go_wp2
    go_ret
    exact ⟨by first | rfl | (simp; done) | (simp [*]; done), by repeat (first | exact Drawn0.refl _ | apply Drawn0.step)⟩
  · rw [if_neg c2] at H
    have c2b0 : decide (a0 < 0) = false := decide_eq_false c2
    clear c2
    by_cases c3 : a0 > 0
    · rw [if_pos c3] at H
      have c3b0 : decide (0 < a0) = true := decide_eq_true c3
      clear c3
      obtain rfl := Option.some.inj H
      go_enter Try.func57, Try.ntmps57
      go_wp2
      go_ret
      exact ⟨by first | rfl | (simp; done) | (simp [*]; done), by repeat (first | exact Drawn0.refl _ | apply Drawn0.step)⟩
    · rw [if_neg c3] at H
      have c3b0 : decide (0 < a0) = false := decide_eq_false c3
      clear c3
      obtain rfl := Option.some.inj H
      go_enter Try.func57, Try.ntmps57
      go_wp2
      go_ret
      exact ⟨by first | rfl | (simp; done) | (simp [*]; done), by repeat (first | exact Drawn0.refl _ | apply Drawn0.step)⟩

/-! ### syzygyref08_lex: function 55 -/
def sgn8 (n : Int) : Int := if n < 0 then -1 else if n > 0 then 1 else 0
theorem sgn8_f (n : Int) : syzygyref08_sign.f n = some (sgn8 n) := by unfold syzygyref08_sign.f sgn8; split; rfl; split <;> rfl
def syzygyref08_lex.v (x0 x1 x2 x3 y0 y1 y2 y3 : Int) : Int := cond (x0 != y0) (sgn8 (wrap64 (x0 - y0))) (cond (x1 != y1) (sgn8 (wrap64 (x1 - y1))) (cond (x2 != y2) (sgn8 (wrap64 (x2 - y2))) (cond (x3 != y3) (sgn8 (wrap64 (x3 - y3))) (0))))
set_option maxHeartbeats 4000000 in
set_option maxRecDepth 100000 in
theorem syzygyref08_lex.calls_ (x0 x1 x2 x3 y0 y1 y2 y3 : Int) (w : World) : Calls Try.prog 55 #[.agg #[.int .i64 x0, .int .i64 x1, .int .i64 x2, .int .i64 x3], .agg #[.int .i64 y0, .int .i64 y1, .int .i64 y2, .int .i64 y3]] w fun e w' => e = .returned (.int .i64 (syzygyref08_lex.v x0 x1 x2 x3 y0 y1 y2 y3)) ∧ Below w.heap.size w w' := by
  unfold syzygyref08_lex.v
  have hA := blk_alloc (blk_new w (.cells #[.int .i64 x0, .int .i64 x1, .int .i64 x2, .int .i64 x3] 36)) (.cells #[.int .i64 y0, .int .i64 y1, .int .i64 y2, .int .i64 y3] 36)
  have hB := blk_new (w.alloc (.cells #[.int .i64 x0, .int .i64 x1, .int .i64 x2, .int .i64 x3] 36)) (.cells #[.int .i64 y0, .int .i64 y1, .int .i64 y2, .int .i64 y3] 36)
  have hD := below_alloc (below_alloc (Below.refl _ w) (.cells #[.int .i64 x0, .int .i64 x1, .int .i64 x2, .int .i64 x3] 36)) (.cells #[.int .i64 y0, .int .i64 y1, .int .i64 y2, .int .i64 y3] 36)
  simp only [World.size_alloc] at hA hB
  have HA := Aside0.mk hA
  have HB := Aside0.mk hB
  have HD := Aside0.mk hD
  clear hA hB hD
  cases n0 : (x0 != y0) with
  | true =>
    simp only [cond_true, cond_false]
    go_enter Try.func55, Try.ntmps55
    go_wp2
    generalize (w.alloc (.cells #[.int .i64 x0, .int .i64 x1, .int .i64 x2, .int .i64 x3] 36)).alloc (.cells #[.int .i64 y0, .int .i64 y1, .int .i64 y2, .int .i64 y3] 36) = v0 at HA HB HD ⊢
    refine wp_loop_rounds 1 ?_
    rw [rounds_succ]
    go_wp2
    have ca : (v0.drew).cell? ⟨w.heap.size, 0, none⟩ = some (.int .i64 x0) := (blk_cell (blk_drew HA.out) 0).trans rfl
    have cb : (v0.drew).cell? ⟨w.heap.size + 1, 0, none⟩ = some (.int .i64 y0) := (blk_cell (blk_drew HB.out) 0).trans rfl
    have KA := Aside0.mk (blk_drew HA.out)
    have KB := Aside0.mk (blk_drew HB.out)
    have KD := Aside0.mk (below_drew HD.out)
    refine wp_region_still_tail 6 (by kernel_rfl) (by kernel_rfl) ?_
    change wpStill Try.prog _ v0.drew (fun a' => wpList Try.prog _ _ _ a' v0.drew) _ _
    generalize v0.drew = v1 at KA KB KD ca cb ⊢
    clear HA HB HD
    have HA := Aside0.mk KA.out
    have HB := Aside0.mk KB.out
    have HD := Aside0.mk KD.out
    clear KA KB KD
    simp only [List.take_succ_cons, List.take_zero, List.drop_succ_cons, List.drop_zero]
    repeat still_step
    refine wpStill_nil ?_
    go_wp2_with fail
    have ca : (v1.drew).cell? ⟨w.heap.size, 0, none⟩ = some (.int .i64 x0) := (blk_cell (blk_drew HA.out) 0).trans rfl
    have cb : (v1.drew).cell? ⟨w.heap.size + 1, 0, none⟩ = some (.int .i64 y0) := (blk_cell (blk_drew HB.out) 0).trans rfl
    have KA := Aside0.mk (blk_drew HA.out)
    have KB := Aside0.mk (blk_drew HB.out)
    have KD := Aside0.mk (below_drew HD.out)
    refine wp_region_still_tail 7 (by kernel_rfl) (by kernel_rfl) ?_
    change wpStill Try.prog _ v1.drew (fun a' => wpList Try.prog _ _ _ a' v1.drew) _ _
    generalize v1.drew = v2 at KA KB KD ca cb ⊢
    clear HA HB HD
    have HA := Aside0.mk KA.out
    have HB := Aside0.mk KB.out
    have HD := Aside0.mk KD.out
    clear KA KB KD
    simp only [List.take_succ_cons, List.take_zero, List.drop_succ_cons, List.drop_zero]
    repeat still_step
    refine wpStill_nil ?_
    go_wp2_with fail
    refine (syzygyref08_sign.calls (wrap64 (x0 - y0)) _ _ (sgn8_f _)).mono ?_
    rintro e w1 ⟨rfl, ⟨nd, rfl⟩⟩
    have HE := Aside0.mk (pw_below_drewN HD.out nd)
    go_wp2
    go_ret
    exact ⟨rfl, HE.out⟩
  | false =>
    cases n1 : (x1 != y1) with
    | true =>
      simp only [cond_true, cond_false]
      go_enter Try.func55, Try.ntmps55
      go_wp2
      generalize (w.alloc (.cells #[.int .i64 x0, .int .i64 x1, .int .i64 x2, .int .i64 x3] 36)).alloc (.cells #[.int .i64 y0, .int .i64 y1, .int .i64 y2, .int .i64 y3] 36) = v0 at HA HB HD ⊢
      refine wp_loop_rounds 2 ?_
      rw [rounds_succ]
      go_wp2
      have ca : (v0.drew).cell? ⟨w.heap.size, 0, none⟩ = some (.int .i64 x0) := (blk_cell (blk_drew HA.out) 0).trans rfl
      have cb : (v0.drew).cell? ⟨w.heap.size + 1, 0, none⟩ = some (.int .i64 y0) := (blk_cell (blk_drew HB.out) 0).trans rfl
      have KA := Aside0.mk (blk_drew HA.out)
      have KB := Aside0.mk (blk_drew HB.out)
      have KD := Aside0.mk (below_drew HD.out)
      refine wp_region_still_tail 6 (by kernel_rfl) (by kernel_rfl) ?_
      change wpStill Try.prog _ v0.drew (fun a' => wpList Try.prog _ _ _ a' v0.drew) _ _
      generalize v0.drew = v1 at KA KB KD ca cb ⊢
      clear HA HB HD
      have HA := Aside0.mk KA.out
      have HB := Aside0.mk KB.out
      have HD := Aside0.mk KD.out
      clear KA KB KD
      simp only [List.take_succ_cons, List.take_zero, List.drop_succ_cons, List.drop_zero]
      repeat still_step
      refine wpStill_nil ?_
      go_wp2_with fail
      rw [rounds_succ]
      go_wp2
      have ca : (v1.drew).cell? ⟨w.heap.size, 1, none⟩ = some (.int .i64 x1) := (blk_cell (blk_drew HA.out) 1).trans rfl
      have cb : (v1.drew).cell? ⟨w.heap.size + 1, 1, none⟩ = some (.int .i64 y1) := (blk_cell (blk_drew HB.out) 1).trans rfl
      have KA := Aside0.mk (blk_drew HA.out)
      have KB := Aside0.mk (blk_drew HB.out)
      have KD := Aside0.mk (below_drew HD.out)
      refine wp_region_still_tail 6 (by kernel_rfl) (by kernel_rfl) ?_
      change wpStill Try.prog _ v1.drew (fun a' => wpList Try.prog _ _ _ a' v1.drew) _ _
      generalize v1.drew = v2 at KA KB KD ca cb ⊢
      clear HA HB HD
      have HA := Aside0.mk KA.out
      have HB := Aside0.mk KB.out
      have HD := Aside0.mk KD.out
      clear KA KB KD
      simp only [List.take_succ_cons, List.take_zero, List.drop_succ_cons, List.drop_zero]
      repeat still_step
      refine wpStill_nil ?_
      go_wp2_with fail
      have ca : (v2.drew).cell? ⟨w.heap.size, 1, none⟩ = some (.int .i64 x1) := (blk_cell (blk_drew HA.out) 1).trans rfl
      have cb : (v2.drew).cell? ⟨w.heap.size + 1, 1, none⟩ = some (.int .i64 y1) := (blk_cell (blk_drew HB.out) 1).trans rfl
      have KA := Aside0.mk (blk_drew HA.out)
      have KB := Aside0.mk (blk_drew HB.out)
      have KD := Aside0.mk (below_drew HD.out)
      refine wp_region_still_tail 7 (by kernel_rfl) (by kernel_rfl) ?_
      change wpStill Try.prog _ v2.drew (fun a' => wpList Try.prog _ _ _ a' v2.drew) _ _
      generalize v2.drew = v3 at KA KB KD ca cb ⊢
      clear HA HB HD
      have HA := Aside0.mk KA.out
      have HB := Aside0.mk KB.out
      have HD := Aside0.mk KD.out
      clear KA KB KD
      simp only [List.take_succ_cons, List.take_zero, List.drop_succ_cons, List.drop_zero]
      repeat still_step
      refine wpStill_nil ?_
      go_wp2_with fail
      refine (syzygyref08_sign.calls (wrap64 (x1 - y1)) _ _ (sgn8_f _)).mono ?_
      rintro e w1 ⟨rfl, ⟨nd, rfl⟩⟩
      have HE := Aside0.mk (pw_below_drewN HD.out nd)
      go_wp2
      go_ret
      exact ⟨rfl, HE.out⟩
    | false =>
      cases n2 : (x2 != y2) with
      | true =>
        simp only [cond_true, cond_false]
        go_enter Try.func55, Try.ntmps55
        go_wp2
        generalize (w.alloc (.cells #[.int .i64 x0, .int .i64 x1, .int .i64 x2, .int .i64 x3] 36)).alloc (.cells #[.int .i64 y0, .int .i64 y1, .int .i64 y2, .int .i64 y3] 36) = v0 at HA HB HD ⊢
        refine wp_loop_rounds 3 ?_
        rw [rounds_succ]
        go_wp2
        have ca : (v0.drew).cell? ⟨w.heap.size, 0, none⟩ = some (.int .i64 x0) := (blk_cell (blk_drew HA.out) 0).trans rfl
        have cb : (v0.drew).cell? ⟨w.heap.size + 1, 0, none⟩ = some (.int .i64 y0) := (blk_cell (blk_drew HB.out) 0).trans rfl
        have KA := Aside0.mk (blk_drew HA.out)
        have KB := Aside0.mk (blk_drew HB.out)
        have KD := Aside0.mk (below_drew HD.out)
        refine wp_region_still_tail 6 (by kernel_rfl) (by kernel_rfl) ?_
        change wpStill Try.prog _ v0.drew (fun a' => wpList Try.prog _ _ _ a' v0.drew) _ _
        generalize v0.drew = v1 at KA KB KD ca cb ⊢
        clear HA HB HD
        have HA := Aside0.mk KA.out
        have HB := Aside0.mk KB.out
        have HD := Aside0.mk KD.out
        clear KA KB KD
        simp only [List.take_succ_cons, List.take_zero, List.drop_succ_cons, List.drop_zero]
        repeat still_step
        refine wpStill_nil ?_
        go_wp2_with fail
        rw [rounds_succ]
        go_wp2
        have ca : (v1.drew).cell? ⟨w.heap.size, 1, none⟩ = some (.int .i64 x1) := (blk_cell (blk_drew HA.out) 1).trans rfl
        have cb : (v1.drew).cell? ⟨w.heap.size + 1, 1, none⟩ = some (.int .i64 y1) := (blk_cell (blk_drew HB.out) 1).trans rfl
        have KA := Aside0.mk (blk_drew HA.out)
        have KB := Aside0.mk (blk_drew HB.out)
        have KD := Aside0.mk (below_drew HD.out)
        refine wp_region_still_tail 6 (by kernel_rfl) (by kernel_rfl) ?_
        change wpStill Try.prog _ v1.drew (fun a' => wpList Try.prog _ _ _ a' v1.drew) _ _
        generalize v1.drew = v2 at KA KB KD ca cb ⊢
        clear HA HB HD
        have HA := Aside0.mk KA.out
        have HB := Aside0.mk KB.out
        have HD := Aside0.mk KD.out
        clear KA KB KD
        simp only [List.take_succ_cons, List.take_zero, List.drop_succ_cons, List.drop_zero]
        repeat still_step
        refine wpStill_nil ?_
        go_wp2_with fail
        rw [rounds_succ]
        go_wp2
        have ca : (v2.drew).cell? ⟨w.heap.size, 2, none⟩ = some (.int .i64 x2) := (blk_cell (blk_drew HA.out) 2).trans rfl
        have cb : (v2.drew).cell? ⟨w.heap.size + 1, 2, none⟩ = some (.int .i64 y2) := (blk_cell (blk_drew HB.out) 2).trans rfl
        have KA := Aside0.mk (blk_drew HA.out)
        have KB := Aside0.mk (blk_drew HB.out)
        have KD := Aside0.mk (below_drew HD.out)
        refine wp_region_still_tail 6 (by kernel_rfl) (by kernel_rfl) ?_
        change wpStill Try.prog _ v2.drew (fun a' => wpList Try.prog _ _ _ a' v2.drew) _ _
        generalize v2.drew = v3 at KA KB KD ca cb ⊢
        clear HA HB HD
        have HA := Aside0.mk KA.out
        have HB := Aside0.mk KB.out
        have HD := Aside0.mk KD.out
        clear KA KB KD
        simp only [List.take_succ_cons, List.take_zero, List.drop_succ_cons, List.drop_zero]
        repeat still_step
        refine wpStill_nil ?_
        go_wp2_with fail
        have ca : (v3.drew).cell? ⟨w.heap.size, 2, none⟩ = some (.int .i64 x2) := (blk_cell (blk_drew HA.out) 2).trans rfl
        have cb : (v3.drew).cell? ⟨w.heap.size + 1, 2, none⟩ = some (.int .i64 y2) := (blk_cell (blk_drew HB.out) 2).trans rfl
        have KA := Aside0.mk (blk_drew HA.out)
        have KB := Aside0.mk (blk_drew HB.out)
        have KD := Aside0.mk (below_drew HD.out)
        refine wp_region_still_tail 7 (by kernel_rfl) (by kernel_rfl) ?_
        change wpStill Try.prog _ v3.drew (fun a' => wpList Try.prog _ _ _ a' v3.drew) _ _
        generalize v3.drew = v4 at KA KB KD ca cb ⊢
        clear HA HB HD
        have HA := Aside0.mk KA.out
        have HB := Aside0.mk KB.out
        have HD := Aside0.mk KD.out
        clear KA KB KD
        simp only [List.take_succ_cons, List.take_zero, List.drop_succ_cons, List.drop_zero]
        repeat still_step
        refine wpStill_nil ?_
        go_wp2_with fail
        refine (syzygyref08_sign.calls (wrap64 (x2 - y2)) _ _ (sgn8_f _)).mono ?_
        rintro e w1 ⟨rfl, ⟨nd, rfl⟩⟩
        have HE := Aside0.mk (pw_below_drewN HD.out nd)
        go_wp2
        go_ret
        exact ⟨rfl, HE.out⟩
      | false =>
        cases n3 : (x3 != y3) with
        | true =>
          simp only [cond_true, cond_false]
          go_enter Try.func55, Try.ntmps55
          go_wp2
          generalize (w.alloc (.cells #[.int .i64 x0, .int .i64 x1, .int .i64 x2, .int .i64 x3] 36)).alloc (.cells #[.int .i64 y0, .int .i64 y1, .int .i64 y2, .int .i64 y3] 36) = v0 at HA HB HD ⊢
          refine wp_loop_rounds 4 ?_
          rw [rounds_succ]
          go_wp2
          have ca : (v0.drew).cell? ⟨w.heap.size, 0, none⟩ = some (.int .i64 x0) := (blk_cell (blk_drew HA.out) 0).trans rfl
          have cb : (v0.drew).cell? ⟨w.heap.size + 1, 0, none⟩ = some (.int .i64 y0) := (blk_cell (blk_drew HB.out) 0).trans rfl
          have KA := Aside0.mk (blk_drew HA.out)
          have KB := Aside0.mk (blk_drew HB.out)
          have KD := Aside0.mk (below_drew HD.out)
          refine wp_region_still_tail 6 (by kernel_rfl) (by kernel_rfl) ?_
          change wpStill Try.prog _ v0.drew (fun a' => wpList Try.prog _ _ _ a' v0.drew) _ _
          generalize v0.drew = v1 at KA KB KD ca cb ⊢
          clear HA HB HD
          have HA := Aside0.mk KA.out
          have HB := Aside0.mk KB.out
          have HD := Aside0.mk KD.out
          clear KA KB KD
          simp only [List.take_succ_cons, List.take_zero, List.drop_succ_cons, List.drop_zero]
          repeat still_step
          refine wpStill_nil ?_
          go_wp2_with fail
          rw [rounds_succ]
          go_wp2
          have ca : (v1.drew).cell? ⟨w.heap.size, 1, none⟩ = some (.int .i64 x1) := (blk_cell (blk_drew HA.out) 1).trans rfl
          have cb : (v1.drew).cell? ⟨w.heap.size + 1, 1, none⟩ = some (.int .i64 y1) := (blk_cell (blk_drew HB.out) 1).trans rfl
          have KA := Aside0.mk (blk_drew HA.out)
          have KB := Aside0.mk (blk_drew HB.out)
          have KD := Aside0.mk (below_drew HD.out)
          refine wp_region_still_tail 6 (by kernel_rfl) (by kernel_rfl) ?_
          change wpStill Try.prog _ v1.drew (fun a' => wpList Try.prog _ _ _ a' v1.drew) _ _
          generalize v1.drew = v2 at KA KB KD ca cb ⊢
          clear HA HB HD
          have HA := Aside0.mk KA.out
          have HB := Aside0.mk KB.out
          have HD := Aside0.mk KD.out
          clear KA KB KD
          simp only [List.take_succ_cons, List.take_zero, List.drop_succ_cons, List.drop_zero]
          repeat still_step
          refine wpStill_nil ?_
          go_wp2_with fail
          rw [rounds_succ]
          go_wp2
          have ca : (v2.drew).cell? ⟨w.heap.size, 2, none⟩ = some (.int .i64 x2) := (blk_cell (blk_drew HA.out) 2).trans rfl
          have cb : (v2.drew).cell? ⟨w.heap.size + 1, 2, none⟩ = some (.int .i64 y2) := (blk_cell (blk_drew HB.out) 2).trans rfl
          have KA := Aside0.mk (blk_drew HA.out)
          have KB := Aside0.mk (blk_drew HB.out)
          have KD := Aside0.mk (below_drew HD.out)
          refine wp_region_still_tail 6 (by kernel_rfl) (by kernel_rfl) ?_
          change wpStill Try.prog _ v2.drew (fun a' => wpList Try.prog _ _ _ a' v2.drew) _ _
          generalize v2.drew = v3 at KA KB KD ca cb ⊢
          clear HA HB HD
          have HA := Aside0.mk KA.out
          have HB := Aside0.mk KB.out
          have HD := Aside0.mk KD.out
          clear KA KB KD
          simp only [List.take_succ_cons, List.take_zero, List.drop_succ_cons, List.drop_zero]
          repeat still_step
          refine wpStill_nil ?_
          go_wp2_with fail
          rw [rounds_succ]
          go_wp2
          have ca : (v3.drew).cell? ⟨w.heap.size, 3, none⟩ = some (.int .i64 x3) := (blk_cell (blk_drew HA.out) 3).trans rfl
          have cb : (v3.drew).cell? ⟨w.heap.size + 1, 3, none⟩ = some (.int .i64 y3) := (blk_cell (blk_drew HB.out) 3).trans rfl
          have KA := Aside0.mk (blk_drew HA.out)
          have KB := Aside0.mk (blk_drew HB.out)
          have KD := Aside0.mk (below_drew HD.out)
          refine wp_region_still_tail 6 (by kernel_rfl) (by kernel_rfl) ?_
          change wpStill Try.prog _ v3.drew (fun a' => wpList Try.prog _ _ _ a' v3.drew) _ _
          generalize v3.drew = v4 at KA KB KD ca cb ⊢
          clear HA HB HD
          have HA := Aside0.mk KA.out
          have HB := Aside0.mk KB.out
          have HD := Aside0.mk KD.out
          clear KA KB KD
          simp only [List.take_succ_cons, List.take_zero, List.drop_succ_cons, List.drop_zero]
          repeat still_step
          refine wpStill_nil ?_
          go_wp2_with fail
          have ca : (v4.drew).cell? ⟨w.heap.size, 3, none⟩ = some (.int .i64 x3) := (blk_cell (blk_drew HA.out) 3).trans rfl
          have cb : (v4.drew).cell? ⟨w.heap.size + 1, 3, none⟩ = some (.int .i64 y3) := (blk_cell (blk_drew HB.out) 3).trans rfl
          have KA := Aside0.mk (blk_drew HA.out)
          have KB := Aside0.mk (blk_drew HB.out)
          have KD := Aside0.mk (below_drew HD.out)
          refine wp_region_still_tail 7 (by kernel_rfl) (by kernel_rfl) ?_
          change wpStill Try.prog _ v4.drew (fun a' => wpList Try.prog _ _ _ a' v4.drew) _ _
          generalize v4.drew = v5 at KA KB KD ca cb ⊢
          clear HA HB HD
          have HA := Aside0.mk KA.out
          have HB := Aside0.mk KB.out
          have HD := Aside0.mk KD.out
          clear KA KB KD
          simp only [List.take_succ_cons, List.take_zero, List.drop_succ_cons, List.drop_zero]
          repeat still_step
          refine wpStill_nil ?_
          go_wp2_with fail
          refine (syzygyref08_sign.calls (wrap64 (x3 - y3)) _ _ (sgn8_f _)).mono ?_
          rintro e w1 ⟨rfl, ⟨nd, rfl⟩⟩
          have HE := Aside0.mk (pw_below_drewN HD.out nd)
          go_wp2
          go_ret
          exact ⟨rfl, HE.out⟩
        | false =>
          simp only [cond_true, cond_false]
          go_enter Try.func55, Try.ntmps55
          go_wp2
          generalize (w.alloc (.cells #[.int .i64 x0, .int .i64 x1, .int .i64 x2, .int .i64 x3] 36)).alloc (.cells #[.int .i64 y0, .int .i64 y1, .int .i64 y2, .int .i64 y3] 36) = v0 at HA HB HD ⊢
          refine wp_loop_rounds 5 ?_
          rw [rounds_succ]
          go_wp2
          have ca : (v0.drew).cell? ⟨w.heap.size, 0, none⟩ = some (.int .i64 x0) := (blk_cell (blk_drew HA.out) 0).trans rfl
          have cb : (v0.drew).cell? ⟨w.heap.size + 1, 0, none⟩ = some (.int .i64 y0) := (blk_cell (blk_drew HB.out) 0).trans rfl
          have KA := Aside0.mk (blk_drew HA.out)
          have KB := Aside0.mk (blk_drew HB.out)
          have KD := Aside0.mk (below_drew HD.out)
          refine wp_region_still_tail 6 (by kernel_rfl) (by kernel_rfl) ?_
          change wpStill Try.prog _ v0.drew (fun a' => wpList Try.prog _ _ _ a' v0.drew) _ _
          generalize v0.drew = v1 at KA KB KD ca cb ⊢
          clear HA HB HD
          have HA := Aside0.mk KA.out
          have HB := Aside0.mk KB.out
          have HD := Aside0.mk KD.out
          clear KA KB KD
          simp only [List.take_succ_cons, List.take_zero, List.drop_succ_cons, List.drop_zero]
          repeat still_step
          refine wpStill_nil ?_
          go_wp2_with fail
          rw [rounds_succ]
          go_wp2
          have ca : (v1.drew).cell? ⟨w.heap.size, 1, none⟩ = some (.int .i64 x1) := (blk_cell (blk_drew HA.out) 1).trans rfl
          have cb : (v1.drew).cell? ⟨w.heap.size + 1, 1, none⟩ = some (.int .i64 y1) := (blk_cell (blk_drew HB.out) 1).trans rfl
          have KA := Aside0.mk (blk_drew HA.out)
          have KB := Aside0.mk (blk_drew HB.out)
          have KD := Aside0.mk (below_drew HD.out)
          refine wp_region_still_tail 6 (by kernel_rfl) (by kernel_rfl) ?_
          change wpStill Try.prog _ v1.drew (fun a' => wpList Try.prog _ _ _ a' v1.drew) _ _
          generalize v1.drew = v2 at KA KB KD ca cb ⊢
          clear HA HB HD
          have HA := Aside0.mk KA.out
          have HB := Aside0.mk KB.out
          have HD := Aside0.mk KD.out
          clear KA KB KD
          simp only [List.take_succ_cons, List.take_zero, List.drop_succ_cons, List.drop_zero]
          repeat still_step
          refine wpStill_nil ?_
          go_wp2_with fail
          rw [rounds_succ]
          go_wp2
          have ca : (v2.drew).cell? ⟨w.heap.size, 2, none⟩ = some (.int .i64 x2) := (blk_cell (blk_drew HA.out) 2).trans rfl
          have cb : (v2.drew).cell? ⟨w.heap.size + 1, 2, none⟩ = some (.int .i64 y2) := (blk_cell (blk_drew HB.out) 2).trans rfl
          have KA := Aside0.mk (blk_drew HA.out)
          have KB := Aside0.mk (blk_drew HB.out)
          have KD := Aside0.mk (below_drew HD.out)
          refine wp_region_still_tail 6 (by kernel_rfl) (by kernel_rfl) ?_
          change wpStill Try.prog _ v2.drew (fun a' => wpList Try.prog _ _ _ a' v2.drew) _ _
          generalize v2.drew = v3 at KA KB KD ca cb ⊢
          clear HA HB HD
          have HA := Aside0.mk KA.out
          have HB := Aside0.mk KB.out
          have HD := Aside0.mk KD.out
          clear KA KB KD
          simp only [List.take_succ_cons, List.take_zero, List.drop_succ_cons, List.drop_zero]
          repeat still_step
          refine wpStill_nil ?_
          go_wp2_with fail
          rw [rounds_succ]
          go_wp2
          have ca : (v3.drew).cell? ⟨w.heap.size, 3, none⟩ = some (.int .i64 x3) := (blk_cell (blk_drew HA.out) 3).trans rfl
          have cb : (v3.drew).cell? ⟨w.heap.size + 1, 3, none⟩ = some (.int .i64 y3) := (blk_cell (blk_drew HB.out) 3).trans rfl
          have KA := Aside0.mk (blk_drew HA.out)
          have KB := Aside0.mk (blk_drew HB.out)
          have KD := Aside0.mk (below_drew HD.out)
          refine wp_region_still_tail 6 (by kernel_rfl) (by kernel_rfl) ?_
          change wpStill Try.prog _ v3.drew (fun a' => wpList Try.prog _ _ _ a' v3.drew) _ _
          generalize v3.drew = v4 at KA KB KD ca cb ⊢
          clear HA HB HD
          have HA := Aside0.mk KA.out
          have HB := Aside0.mk KB.out
          have HD := Aside0.mk KD.out
          clear KA KB KD
          simp only [List.take_succ_cons, List.take_zero, List.drop_succ_cons, List.drop_zero]
          repeat still_step
          refine wpStill_nil ?_
          go_wp2_with fail
          rw [rounds_succ]
          go_wp2
          go_ret
          exact ⟨rfl, HD.out⟩
def syzygyref08_lex.f (x0 x1 x2 x3 y0 y1 y2 y3 : Int) : Option Int := some (syzygyref08_lex.v x0 x1 x2 x3 y0 y1 y2 y3)
theorem syzygyref08_lex.calls (x0 x1 x2 x3 y0 y1 y2 y3 : Int) (r : Int) (w : World) (h : syzygyref08_lex.f x0 x1 x2 x3 y0 y1 y2 y3 = some r) :
    Calls Try.prog 55 #[.agg #[.int .i64 x0, .int .i64 x1, .int .i64 x2, .int .i64 x3], .agg #[.int .i64 y0, .int .i64 y1, .int .i64 y2, .int .i64 y3]] w fun e w' => e = .returned (.int .i64 r) ∧ Below w.heap.size w w' := by
  obtain rfl := Option.some.inj h
  exact syzygyref08_lex.calls_ x0 x1 x2 x3 y0 y1 y2 y3 w

/-! ### syzygyref08_Degree: function 56 -/
def syzygyref08_Degree.v (x0 x1 x2 x3 : Int) : Int := cond (syzygyref08_May.v x0 x1 x2 x3) (wrap64 (wrap64 (wrap64 (wrap64 x0 + x1) + x2) + x3)) 0
set_option maxHeartbeats 2000000 in
set_option maxRecDepth 100000 in
theorem syzygyref08_Degree.calls_ (x0 x1 x2 x3 : Int) (w : World) : Calls Try.prog 56 #[.agg #[.int .i64 x0, .int .i64 x1, .int .i64 x2, .int .i64 x3]] w fun e w' => e = .returned (.int .i64 (syzygyref08_Degree.v x0 x1 x2 x3)) ∧ Below w.heap.size w w' := by
  have HB := Aside0.mk (blk_new w (.cells #[.int .i64 x0, .int .i64 x1, .int .i64 x2, .int .i64 x3] 36))
  have HD := Aside0.mk (below_alloc (Below.refl _ w) (.cells #[.int .i64 x0, .int .i64 x1, .int .i64 x2, .int .i64 x3] 36))
  have HM := Aside0.mk (syzygyref08_May.calls_ x0 x1 x2 x3)
  unfold syzygyref08_Degree.v
  cases hv : syzygyref08_May.v x0 x1 x2 x3 with
  | false =>
    go_enter Try.func56, Try.ntmps56
    go_wp2_with fail
    generalize w.alloc (.cells #[.int .i64 x0, .int .i64 x1, .int .i64 x2, .int .i64 x3] 36) = v0 at HB HD ⊢
    obtain ⟨c0, c1, c2, c3⟩ := cells4 HB.out
    go_wp2_with fail
    refine (HM.out v0).mono ?_
    rw [hv]
    rintro e v1 ⟨rfl, hb⟩
    have HB1 := Aside0.mk (blk_below HB.out hb)
    have HD1 := Aside0.mk (HD.out.trans (hb.mono HD.out.size))
    clear hb hv HM HB HD c0 c1 c2 c3
    obtain ⟨c0, c1, c2, c3⟩ := cells4 HB1.out
    go_wp2
    go_ret
    exact ⟨rfl, HD1.out⟩
  | true =>
    go_enter Try.func56, Try.ntmps56
    go_wp2_with fail
    generalize w.alloc (.cells #[.int .i64 x0, .int .i64 x1, .int .i64 x2, .int .i64 x3] 36) = v0 at HB HD ⊢
    obtain ⟨c0, c1, c2, c3⟩ := cells4 HB.out
    go_wp2_with fail
    refine (HM.out v0).mono ?_
    rw [hv]
    rintro e v1 ⟨rfl, hb⟩
    have HB1 := Aside0.mk (blk_below HB.out hb)
    have HD1 := Aside0.mk (HD.out.trans (hb.mono HD.out.size))
    clear hb hv HM HB HD c0 c1 c2 c3
    obtain ⟨c0, c1, c2, c3⟩ := cells4 HB1.out
    go_wp2
    refine wp_loop_rounds 5 ?_
    rw [rounds_succ]
    go_wp2
    rw [rounds_succ]
    go_wp2
    rw [rounds_succ]
    go_wp2
    rw [rounds_succ]
    go_wp2
    rw [rounds_succ]
    go_wp2
    go_ret
    exact ⟨rfl, HD1.out⟩
def syzygyref08_Degree.f (x0 x1 x2 x3 : Int) : Option Int := some (syzygyref08_Degree.v x0 x1 x2 x3)
theorem syzygyref08_Degree.calls (x0 x1 x2 x3 : Int) (r : Int) (w : World) (h : syzygyref08_Degree.f x0 x1 x2 x3 = some r) :
    Calls Try.prog 56 #[.agg #[.int .i64 x0, .int .i64 x1, .int .i64 x2, .int .i64 x3]] w fun e w' => e = .returned (.int .i64 r) ∧ Below w.heap.size w w' := by
  obtain rfl := Option.some.inj h
  exact syzygyref08_Degree.calls_ x0 x1 x2 x3 w

end Go.Proofs.Ytfoickaangjmnaa.POQueueTells
