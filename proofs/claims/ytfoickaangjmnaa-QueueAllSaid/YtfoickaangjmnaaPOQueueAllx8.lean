-- Written by a program of this session (pr.py, over the kit's print.py).
import Derived.Test.YtfoickaangjmnaaPOQueueAllx0
import Derived.Test.YtfoickaangjmnaaPOQueueAllx7
namespace Go.Proofs.Ytfoickaangjmnaa.POQueueAll
open Go.RowKit Go.Proofs.YtfoickaangjmnaaN Go.Proofs.YtfoickaangjmnaaW.PrintWords Go.Proofs.YtfoickaangjmnaaW.PrintLast Go.Proofs.YtfoickaangjmnaaW.PrintMore
attribute [local go_sem] max2_int min2_int max_two min_two max_three min_three max_four min_four   -- for this text's walks alone
set_option linter.unusedVariables false
set_option linter.unusedSimpArgs false

/-! ### syzygyref08_lex: function 55 -/
def sgn8 (n : Int) : Int := if n < 0 then -1 else if n > 0 then 1 else 0
theorem sgn8_f (n : Int) : syzygyref08_sign.f n = some (sgn8 n) := by unfold syzygyref08_sign.f sgn8; split; rfl; split <;> rfl
def syzygyref08_lex.v (x0 x1 x2 x3 y0 y1 y2 y3 : Int) : Int := cond (x0 != y0) (sgn8 (wrap64 (x0 - y0))) (cond (x1 != y1) (sgn8 (wrap64 (x1 - y1))) (cond (x2 != y2) (sgn8 (wrap64 (x2 - y2))) (cond (x3 != y3) (sgn8 (wrap64 (x3 - y3))) (0))))
set_option maxHeartbeats 4000000 in
set_option maxRecDepth 100000 in
theorem syzygyref08_lex.calls_ (x0 x1 x2 x3 y0 y1 y2 y3 : Int) (w : World) : Calls Try.prog 55 #[.agg #[.int .i64 x0, .int .i64 x1, .int .i64 x2, .int .i64 x3], .agg #[.int .i64 y0, .int .i64 y1, .int .i64 y2, .int .i64 y3]] w fun e w' => e = .returned (.int .i64 (syzygyref08_lex.v x0 x1 x2 x3 y0 y1 y2 y3)) ∧ Below w.heap.size w w' := by
  unfold syzygyref08_lex.v
  have hA := blk_alloc (blk_new w (.cells #[.int .i64 x0, .int .i64 x1, .int .i64 x2, .int .i64 x3] 36)) (.cells #[.int .i64 y0, .int .i64 y1, .int .i64 y2, .int .i64 y3] 36)
  have hB := blk_new (w.alloc (.cells #[.int .i64 x0, .int .i64 x1, .int .i64 x2, .int .i64 x3] 36)) (.cells #[.int .i64 y0, .int .i64 y1, .int .i64 y2, .int .i64 y3] 36)
  have hD := below_alloc (below_alloc (Below.refl _ w) (.cells #[.int .i64 x0, .int .i64 x1, .int .i64 x2, .int .i64 x3] 36)) (.cells #[.int .i64 y0, .int .i64 y1, .int .i64 y2, .int .i64 y3] 36)
  simp only [World.size_alloc] at hA hB
  have HA := Aside0.mk hA
  have HB := Aside0.mk hB
  have HD := Aside0.mk hD
  clear hA hB hD
  cases n0 : (x0 != y0) with
  | true =>
    simp only [cond_true, cond_false]
    go_enter Try.func55, Try.ntmps55
    go_wp2
    generalize (w.alloc (.cells #[.int .i64 x0, .int .i64 x1, .int .i64 x2, .int .i64 x3] 36)).alloc (.cells #[.int .i64 y0, .int .i64 y1, .int .i64 y2, .int .i64 y3] 36) = v0 at HA HB HD ⊢
    refine wp_loop_rounds 1 ?_
    rw [rounds_succ]
    go_wp2
    have ca : (v0.drew).cell? ⟨w.heap.size, 0, none⟩ = some (.int .i64 x0) := (blk_cell (blk_drew HA.out) 0).trans rfl
    have cb : (v0.drew).cell? ⟨w.heap.size + 1, 0, none⟩ = some (.int .i64 y0) := (blk_cell (blk_drew HB.out) 0).trans rfl
    have KA := Aside0.mk (blk_drew HA.out)
    have KB := Aside0.mk (blk_drew HB.out)
    have KD := Aside0.mk (below_drew HD.out)
    refine wp_region_still_tail 6 (by kernel_rfl) (by kernel_rfl) ?_
    change wpStill Try.prog _ v0.drew (fun a' => wpList Try.prog _ _ _ a' v0.drew) _ _
    generalize v0.drew = v1 at KA KB KD ca cb ⊢
    clear HA HB HD
    have HA := Aside0.mk KA.out
    have HB := Aside0.mk KB.out
    have HD := Aside0.mk KD.out
    clear KA KB KD
    simp only [List.take_succ_cons, List.take_zero, List.drop_succ_cons, List.drop_zero]
    repeat still_step
    refine wpStill_nil ?_
    go_wp2_with fail
    have ca : (v1.drew).cell? ⟨w.heap.size, 0, none⟩ = some (.int .i64 x0) := (blk_cell (blk_drew HA.out) 0).trans rfl
    have cb : (v1.drew).cell? ⟨w.heap.size + 1, 0, none⟩ = some (.int .i64 y0) := (blk_cell (blk_drew HB.out) 0).trans rfl
    have KA := Aside0.mk (blk_drew HA.out)
    have KB := Aside0.mk (blk_drew HB.out)
    have KD := Aside0.mk (below_drew HD.out)
    refine wp_region_still_tail 7 (by kernel_rfl) (by kernel_rfl) ?_
    change wpStill Try.prog _ v1.drew (fun a' => wpList Try.prog _ _ _ a' v1.drew) _ _
    generalize v1.drew = v2 at KA KB KD ca cb ⊢
    clear HA HB HD
    have HA := Aside0.mk KA.out
    have HB := Aside0.mk KB.out
    have HD := Aside0.mk KD.out
    clear KA KB KD
    simp only [List.take_succ_cons, List.take_zero, List.drop_succ_cons, List.drop_zero]
    repeat still_step
    refine wpStill_nil ?_
    go_wp2_with fail
    refine (syzygyref08_sign.calls (wrap64 (x0 - y0)) _ _ (sgn8_f _)).mono ?_
    rintro e w1 ⟨rfl, ⟨nd, rfl⟩⟩
    have HE := Aside0.mk (pw_below_drewN HD.out nd)
    go_wp2
    go_ret
    exact ⟨rfl, HE.out⟩
  | false =>
    cases n1 : (x1 != y1) with
    | true =>
      simp only [cond_true, cond_false]
      go_enter Try.func55, Try.ntmps55
      go_wp2
      generalize (w.alloc (.cells #[.int .i64 x0, .int .i64 x1, .int .i64 x2, .int .i64 x3] 36)).alloc (.cells #[.int .i64 y0, .int .i64 y1, .int .i64 y2, .int .i64 y3] 36) = v0 at HA HB HD ⊢
      refine wp_loop_rounds 2 ?_
      rw [rounds_succ]
      go_wp2
      have ca : (v0.drew).cell? ⟨w.heap.size, 0, none⟩ = some (.int .i64 x0) := (blk_cell (blk_drew HA.out) 0).trans rfl
      have cb : (v0.drew).cell? ⟨w.heap.size + 1, 0, none⟩ = some (.int .i64 y0) := (blk_cell (blk_drew HB.out) 0).trans rfl
      have KA := Aside0.mk (blk_drew HA.out)
      have KB := Aside0.mk (blk_drew HB.out)
      have KD := Aside0.mk (below_drew HD.out)
      refine wp_region_still_tail 6 (by kernel_rfl) (by kernel_rfl) ?_
      change wpStill Try.prog _ v0.drew (fun a' => wpList Try.prog _ _ _ a' v0.drew) _ _
      generalize v0.drew = v1 at KA KB KD ca cb ⊢
      clear HA HB HD
      have HA := Aside0.mk KA.out
      have HB := Aside0.mk KB.out
      have HD := Aside0.mk KD.out
      clear KA KB KD
      simp only [List.take_succ_cons, List.take_zero, List.drop_succ_cons, List.drop_zero]
      repeat still_step
      refine wpStill_nil ?_
      go_wp2_with fail
      rw [rounds_succ]
      go_wp2
      have ca : (v1.drew).cell? ⟨w.heap.size, 1, none⟩ = some (.int .i64 x1) := (blk_cell (blk_drew HA.out) 1).trans rfl
      have cb : (v1.drew).cell? ⟨w.heap.size + 1, 1, none⟩ = some (.int .i64 y1) := (blk_cell (blk_drew HB.out) 1).trans rfl
      have KA := Aside0.mk (blk_drew HA.out)
      have KB := Aside0.mk (blk_drew HB.out)
      have KD := Aside0.mk (below_drew HD.out)
      refine wp_region_still_tail 6 (by kernel_rfl) (by kernel_rfl) ?_
      change wpStill Try.prog _ v1.drew (fun a' => wpList Try.prog _ _ _ a' v1.drew) _ _
      generalize v1.drew = v2 at KA KB KD ca cb ⊢
      clear HA HB HD
      have HA := Aside0.mk KA.out
      have HB := Aside0.mk KB.out
      have HD := Aside0.mk KD.out
      clear KA KB KD
      simp only [List.take_succ_cons, List.take_zero, List.drop_succ_cons, List.drop_zero]
      repeat still_step
      refine wpStill_nil ?_
      go_wp2_with fail
      have ca : (v2.drew).cell? ⟨w.heap.size, 1, none⟩ = some (.int .i64 x1) := (blk_cell (blk_drew HA.out) 1).trans rfl
      have cb : (v2.drew).cell? ⟨w.heap.size + 1, 1, none⟩ = some (.int .i64 y1) := (blk_cell (blk_drew HB.out) 1).trans rfl
      have KA := Aside0.mk (blk_drew HA.out)
      have KB := Aside0.mk (blk_drew HB.out)
      have KD := Aside0.mk (below_drew HD.out)
      refine wp_region_still_tail 7 (by kernel_rfl) (by kernel_rfl) ?_
      change wpStill Try.prog _ v2.drew (fun a' => wpList Try.prog _ _ _ a' v2.drew) _ _
      generalize v2.drew = v3 at KA KB KD ca cb ⊢
      clear HA HB HD
      have HA := Aside0.mk KA.out
      have HB := Aside0.mk KB.out
      have HD := Aside0.mk KD.out
      clear KA KB KD
      simp only [List.take_succ_cons, List.take_zero, List.drop_succ_cons, List.drop_zero]
      repeat still_step
      refine wpStill_nil ?_
      go_wp2_with fail
      refine (syzygyref08_sign.calls (wrap64 (x1 - y1)) _ _ (sgn8_f _)).mono ?_
      rintro e w1 ⟨rfl, ⟨nd, rfl⟩⟩
      have HE := Aside0.mk (pw_below_drewN HD.out nd)
      go_wp2
      go_ret
      exact ⟨rfl, HE.out⟩
    | false =>
      cases n2 : (x2 != y2) with
      | true =>
        simp only [cond_true, cond_false]
        go_enter Try.func55, Try.ntmps55
        go_wp2
        generalize (w.alloc (.cells #[.int .i64 x0, .int .i64 x1, .int .i64 x2, .int .i64 x3] 36)).alloc (.cells #[.int .i64 y0, .int .i64 y1, .int .i64 y2, .int .i64 y3] 36) = v0 at HA HB HD ⊢
        refine wp_loop_rounds 3 ?_
        rw [rounds_succ]
        go_wp2
        have ca : (v0.drew).cell? ⟨w.heap.size, 0, none⟩ = some (.int .i64 x0) := (blk_cell (blk_drew HA.out) 0).trans rfl
        have cb : (v0.drew).cell? ⟨w.heap.size + 1, 0, none⟩ = some (.int .i64 y0) := (blk_cell (blk_drew HB.out) 0).trans rfl
        have KA := Aside0.mk (blk_drew HA.out)
        have KB := Aside0.mk (blk_drew HB.out)
        have KD := Aside0.mk (below_drew HD.out)
        refine wp_region_still_tail 6 (by kernel_rfl) (by kernel_rfl) ?_
        change wpStill Try.prog _ v0.drew (fun a' => wpList Try.prog _ _ _ a' v0.drew) _ _
        generalize v0.drew = v1 at KA KB KD ca cb ⊢
        clear HA HB HD
        have HA := Aside0.mk KA.out
        have HB := Aside0.mk KB.out
        have HD := Aside0.mk KD.out
        clear KA KB KD
        simp only [List.take_succ_cons, List.take_zero, List.drop_succ_cons, List.drop_zero]
        repeat still_step
        refine wpStill_nil ?_
        go_wp2_with fail
        rw [rounds_succ]
        go_wp2
        have ca : (v1.drew).cell? ⟨w.heap.size, 1, none⟩ = some (.int .i64 x1) := (blk_cell (blk_drew HA.out) 1).trans rfl
        have cb : (v1.drew).cell? ⟨w.heap.size + 1, 1, none⟩ = some (.int .i64 y1) := (blk_cell (blk_drew HB.out) 1).trans rfl
        have KA := Aside0.mk (blk_drew HA.out)
        have KB := Aside0.mk (blk_drew HB.out)
        have KD := Aside0.mk (below_drew HD.out)
        refine wp_region_still_tail 6 (by kernel_rfl) (by kernel_rfl) ?_
        change wpStill Try.prog _ v1.drew (fun a' => wpList Try.prog _ _ _ a' v1.drew) _ _
        generalize v1.drew = v2 at KA KB KD ca cb ⊢
        clear HA HB HD
        have HA := Aside0.mk KA.out
        have HB := Aside0.mk KB.out
        have HD := Aside0.mk KD.out
        clear KA KB KD
        simp only [List.take_succ_cons, List.take_zero, List.drop_succ_cons, List.drop_zero]
        repeat still_step
        refine wpStill_nil ?_
        go_wp2_with fail
        rw [rounds_succ]
        go_wp2
        have ca : (v2.drew).cell? ⟨w.heap.size, 2, none⟩ = some (.int .i64 x2) := (blk_cell (blk_drew HA.out) 2).trans rfl
        have cb : (v2.drew).cell? ⟨w.heap.size + 1, 2, none⟩ = some (.int .i64 y2) := (blk_cell (blk_drew HB.out) 2).trans rfl
        have KA := Aside0.mk (blk_drew HA.out)
        have KB := Aside0.mk (blk_drew HB.out)
        have KD := Aside0.mk (below_drew HD.out)
        refine wp_region_still_tail 6 (by kernel_rfl) (by kernel_rfl) ?_
        change wpStill Try.prog _ v2.drew (fun a' => wpList Try.prog _ _ _ a' v2.drew) _ _
        generalize v2.drew = v3 at KA KB KD ca cb ⊢
        clear HA HB HD
        have HA := Aside0.mk KA.out
        have HB := Aside0.mk KB.out
        have HD := Aside0.mk KD.out
        clear KA KB KD
        simp only [List.take_succ_cons, List.take_zero, List.drop_succ_cons, List.drop_zero]
        repeat still_step
        refine wpStill_nil ?_
        go_wp2_with fail
        have ca : (v3.drew).cell? ⟨w.heap.size, 2, none⟩ = some (.int .i64 x2) := (blk_cell (blk_drew HA.out) 2).trans rfl
        have cb : (v3.drew).cell? ⟨w.heap.size + 1, 2, none⟩ = some (.int .i64 y2) := (blk_cell (blk_drew HB.out) 2).trans rfl
        have KA := Aside0.mk (blk_drew HA.out)
        have KB := Aside0.mk (blk_drew HB.out)
        have KD := Aside0.mk (below_drew HD.out)
        refine wp_region_still_tail 7 (by kernel_rfl) (by kernel_rfl) ?_
        change wpStill Try.prog _ v3.drew (fun a' => wpList Try.prog _ _ _ a' v3.drew) _ _
        generalize v3.drew = v4 at KA KB KD ca cb ⊢
        clear HA HB HD
        have HA := Aside0.mk KA.out
        have HB := Aside0.mk KB.out
        have HD := Aside0.mk KD.out
        clear KA KB KD
        simp only [List.take_succ_cons, List.take_zero, List.drop_succ_cons, List.drop_zero]
        repeat still_step
        refine wpStill_nil ?_
        go_wp2_with fail
        refine (syzygyref08_sign.calls (wrap64 (x2 - y2)) _ _ (sgn8_f _)).mono ?_
        rintro e w1 ⟨rfl, ⟨nd, rfl⟩⟩
        have HE := Aside0.mk (pw_below_drewN HD.out nd)
        go_wp2
        go_ret
        exact ⟨rfl, HE.out⟩
      | false =>
        cases n3 : (x3 != y3) with
        | true =>
          simp only [cond_true, cond_false]
          go_enter Try.func55, Try.ntmps55
          go_wp2
          generalize (w.alloc (.cells #[.int .i64 x0, .int .i64 x1, .int .i64 x2, .int .i64 x3] 36)).alloc (.cells #[.int .i64 y0, .int .i64 y1, .int .i64 y2, .int .i64 y3] 36) = v0 at HA HB HD ⊢
          refine wp_loop_rounds 4 ?_
          rw [rounds_succ]
          go_wp2
          have ca : (v0.drew).cell? ⟨w.heap.size, 0, none⟩ = some (.int .i64 x0) := (blk_cell (blk_drew HA.out) 0).trans rfl
          have cb : (v0.drew).cell? ⟨w.heap.size + 1, 0, none⟩ = some (.int .i64 y0) := (blk_cell (blk_drew HB.out) 0).trans rfl
          have KA := Aside0.mk (blk_drew HA.out)
          have KB := Aside0.mk (blk_drew HB.out)
          have KD := Aside0.mk (below_drew HD.out)
          refine wp_region_still_tail 6 (by kernel_rfl) (by kernel_rfl) ?_
          change wpStill Try.prog _ v0.drew (fun a' => wpList Try.prog _ _ _ a' v0.drew) _ _
          generalize v0.drew = v1 at KA KB KD ca cb ⊢
          clear HA HB HD
          have HA := Aside0.mk KA.out
          have HB := Aside0.mk KB.out
          have HD := Aside0.mk KD.out
          clear KA KB KD
          simp only [List.take_succ_cons, List.take_zero, List.drop_succ_cons, List.drop_zero]
          repeat still_step
          refine wpStill_nil ?_
          go_wp2_with fail
          rw [rounds_succ]
          go_wp2
          have ca : (v1.drew).cell? ⟨w.heap.size, 1, none⟩ = some (.int .i64 x1) := (blk_cell (blk_drew HA.out) 1).trans rfl
          have cb : (v1.drew).cell? ⟨w.heap.size + 1, 1, none⟩ = some (.int .i64 y1) := (blk_cell (blk_drew HB.out) 1).trans rfl
          have KA := Aside0.mk (blk_drew HA.out)
          have KB := Aside0.mk (blk_drew HB.out)
          have KD := Aside0.mk (below_drew HD.out)
          refine wp_region_still_tail 6 (by kernel_rfl) (by kernel_rfl) ?_
          change wpStill Try.prog _ v1.drew (fun a' => wpList Try.prog _ _ _ a' v1.drew) _ _
          generalize v1.drew = v2 at KA KB KD ca cb ⊢
          clear HA HB HD
          have HA := Aside0.mk KA.out
          have HB := Aside0.mk KB.out
          have HD := Aside0.mk KD.out
          clear KA KB KD
          simp only [List.take_succ_cons, List.take_zero, List.drop_succ_cons, List.drop_zero]
          repeat still_step
          refine wpStill_nil ?_
          go_wp2_with fail
          rw [rounds_succ]
          go_wp2
          have ca : (v2.drew).cell? ⟨w.heap.size, 2, none⟩ = some (.int .i64 x2) := (blk_cell (blk_drew HA.out) 2).trans rfl
          have cb : (v2.drew).cell? ⟨w.heap.size + 1, 2, none⟩ = some (.int .i64 y2) := (blk_cell (blk_drew HB.out) 2).trans rfl
          have KA := Aside0.mk (blk_drew HA.out)
          have KB := Aside0.mk (blk_drew HB.out)
          have KD := Aside0.mk (below_drew HD.out)
          refine wp_region_still_tail 6 (by kernel_rfl) (by kernel_rfl) ?_
          change wpStill Try.prog _ v2.drew (fun a' => wpList Try.prog _ _ _ a' v2.drew) _ _
          generalize v2.drew = v3 at KA KB KD ca cb ⊢
          clear HA HB HD
          have HA := Aside0.mk KA.out
          have HB := Aside0.mk KB.out
          have HD := Aside0.mk KD.out
          clear KA KB KD
          simp only [List.take_succ_cons, List.take_zero, List.drop_succ_cons, List.drop_zero]
          repeat still_step
          refine wpStill_nil ?_
          go_wp2_with fail
          rw [rounds_succ]
          go_wp2
          have ca : (v3.drew).cell? ⟨w.heap.size, 3, none⟩ = some (.int .i64 x3) := (blk_cell (blk_drew HA.out) 3).trans rfl
          have cb : (v3.drew).cell? ⟨w.heap.size + 1, 3, none⟩ = some (.int .i64 y3) := (blk_cell (blk_drew HB.out) 3).trans rfl
          have KA := Aside0.mk (blk_drew HA.out)
          have KB := Aside0.mk (blk_drew HB.out)
          have KD := Aside0.mk (below_drew HD.out)
          refine wp_region_still_tail 6 (by kernel_rfl) (by kernel_rfl) ?_
          change wpStill Try.prog _ v3.drew (fun a' => wpList Try.prog _ _ _ a' v3.drew) _ _
          generalize v3.drew = v4 at KA KB KD ca cb ⊢
          clear HA HB HD
          have HA := Aside0.mk KA.out
          have HB := Aside0.mk KB.out
          have HD := Aside0.mk KD.out
          clear KA KB KD
          simp only [List.take_succ_cons, List.take_zero, List.drop_succ_cons, List.drop_zero]
          repeat still_step
          refine wpStill_nil ?_
          go_wp2_with fail
          have ca : (v4.drew).cell? ⟨w.heap.size, 3, none⟩ = some (.int .i64 x3) := (blk_cell (blk_drew HA.out) 3).trans rfl
          have cb : (v4.drew).cell? ⟨w.heap.size + 1, 3, none⟩ = some (.int .i64 y3) := (blk_cell (blk_drew HB.out) 3).trans rfl
          have KA := Aside0.mk (blk_drew HA.out)
          have KB := Aside0.mk (blk_drew HB.out)
          have KD := Aside0.mk (below_drew HD.out)
          refine wp_region_still_tail 7 (by kernel_rfl) (by kernel_rfl) ?_
          change wpStill Try.prog _ v4.drew (fun a' => wpList Try.prog _ _ _ a' v4.drew) _ _
          generalize v4.drew = v5 at KA KB KD ca cb ⊢
          clear HA HB HD
          have HA := Aside0.mk KA.out
          have HB := Aside0.mk KB.out
          have HD := Aside0.mk KD.out
          clear KA KB KD
          simp only [List.take_succ_cons, List.take_zero, List.drop_succ_cons, List.drop_zero]
          repeat still_step
          refine wpStill_nil ?_
          go_wp2_with fail
          refine (syzygyref08_sign.calls (wrap64 (x3 - y3)) _ _ (sgn8_f _)).mono ?_
          rintro e w1 ⟨rfl, ⟨nd, rfl⟩⟩
          have HE := Aside0.mk (pw_below_drewN HD.out nd)
          go_wp2
          go_ret
          exact ⟨rfl, HE.out⟩
        | false =>
          simp only [cond_true, cond_false]
          go_enter Try.func55, Try.ntmps55
          go_wp2
          generalize (w.alloc (.cells #[.int .i64 x0, .int .i64 x1, .int .i64 x2, .int .i64 x3] 36)).alloc (.cells #[.int .i64 y0, .int .i64 y1, .int .i64 y2, .int .i64 y3] 36) = v0 at HA HB HD ⊢
          refine wp_loop_rounds 5 ?_
          rw [rounds_succ]
          go_wp2
          have ca : (v0.drew).cell? ⟨w.heap.size, 0, none⟩ = some (.int .i64 x0) := (blk_cell (blk_drew HA.out) 0).trans rfl
          have cb : (v0.drew).cell? ⟨w.heap.size + 1, 0, none⟩ = some (.int .i64 y0) := (blk_cell (blk_drew HB.out) 0).trans rfl
          have KA := Aside0.mk (blk_drew HA.out)
          have KB := Aside0.mk (blk_drew HB.out)
          have KD := Aside0.mk (below_drew HD.out)
          refine wp_region_still_tail 6 (by kernel_rfl) (by kernel_rfl) ?_
          change wpStill Try.prog _ v0.drew (fun a' => wpList Try.prog _ _ _ a' v0.drew) _ _
          generalize v0.drew = v1 at KA KB KD ca cb ⊢
          clear HA HB HD
          have HA := Aside0.mk KA.out
          have HB := Aside0.mk KB.out
          have HD := Aside0.mk KD.out
          clear KA KB KD
          simp only [List.take_succ_cons, List.take_zero, List.drop_succ_cons, List.drop_zero]
          repeat still_step
          refine wpStill_nil ?_
          go_wp2_with fail
          rw [rounds_succ]
          go_wp2
          have ca : (v1.drew).cell? ⟨w.heap.size, 1, none⟩ = some (.int .i64 x1) := (blk_cell (blk_drew HA.out) 1).trans rfl
          have cb : (v1.drew).cell? ⟨w.heap.size + 1, 1, none⟩ = some (.int .i64 y1) := (blk_cell (blk_drew HB.out) 1).trans rfl
          have KA := Aside0.mk (blk_drew HA.out)
          have KB := Aside0.mk (blk_drew HB.out)
          have KD := Aside0.mk (below_drew HD.out)
          refine wp_region_still_tail 6 (by kernel_rfl) (by kernel_rfl) ?_
          change wpStill Try.prog _ v1.drew (fun a' => wpList Try.prog _ _ _ a' v1.drew) _ _
          generalize v1.drew = v2 at KA KB KD ca cb ⊢
          clear HA HB HD
          have HA := Aside0.mk KA.out
          have HB := Aside0.mk KB.out
          have HD := Aside0.mk KD.out
          clear KA KB KD
          simp only [List.take_succ_cons, List.take_zero, List.drop_succ_cons, List.drop_zero]
          repeat still_step
          refine wpStill_nil ?_
          go_wp2_with fail
          rw [rounds_succ]
          go_wp2
          have ca : (v2.drew).cell? ⟨w.heap.size, 2, none⟩ = some (.int .i64 x2) := (blk_cell (blk_drew HA.out) 2).trans rfl
          have cb : (v2.drew).cell? ⟨w.heap.size + 1, 2, none⟩ = some (.int .i64 y2) := (blk_cell (blk_drew HB.out) 2).trans rfl
          have KA := Aside0.mk (blk_drew HA.out)
          have KB := Aside0.mk (blk_drew HB.out)
          have KD := Aside0.mk (below_drew HD.out)
          refine wp_region_still_tail 6 (by kernel_rfl) (by kernel_rfl) ?_
          change wpStill Try.prog _ v2.drew (fun a' => wpList Try.prog _ _ _ a' v2.drew) _ _
          generalize v2.drew = v3 at KA KB KD ca cb ⊢
          clear HA HB HD
          have HA := Aside0.mk KA.out
          have HB := Aside0.mk KB.out
          have HD := Aside0.mk KD.out
          clear KA KB KD
          simp only [List.take_succ_cons, List.take_zero, List.drop_succ_cons, List.drop_zero]
          repeat still_step
          refine wpStill_nil ?_
          go_wp2_with fail
          rw [rounds_succ]
          go_wp2
          have ca : (v3.drew).cell? ⟨w.heap.size, 3, none⟩ = some (.int .i64 x3) := (blk_cell (blk_drew HA.out) 3).trans rfl
          have cb : (v3.drew).cell? ⟨w.heap.size + 1, 3, none⟩ = some (.int .i64 y3) := (blk_cell (blk_drew HB.out) 3).trans rfl
          have KA := Aside0.mk (blk_drew HA.out)
          have KB := Aside0.mk (blk_drew HB.out)
          have KD := Aside0.mk (below_drew HD.out)
          refine wp_region_still_tail 6 (by kernel_rfl) (by kernel_rfl) ?_
          change wpStill Try.prog _ v3.drew (fun a' => wpList Try.prog _ _ _ a' v3.drew) _ _
          generalize v3.drew = v4 at KA KB KD ca cb ⊢
          clear HA HB HD
          have HA := Aside0.mk KA.out
          have HB := Aside0.mk KB.out
          have HD := Aside0.mk KD.out
          clear KA KB KD
          simp only [List.take_succ_cons, List.take_zero, List.drop_succ_cons, List.drop_zero]
          repeat still_step
          refine wpStill_nil ?_
          go_wp2_with fail
          rw [rounds_succ]
          go_wp2
          go_ret
          exact ⟨rfl, HD.out⟩
def syzygyref08_lex.f (x0 x1 x2 x3 y0 y1 y2 y3 : Int) : Option Int := some (syzygyref08_lex.v x0 x1 x2 x3 y0 y1 y2 y3)
theorem syzygyref08_lex.calls (x0 x1 x2 x3 y0 y1 y2 y3 : Int) (r : Int) (w : World) (h : syzygyref08_lex.f x0 x1 x2 x3 y0 y1 y2 y3 = some r) :
    Calls Try.prog 55 #[.agg #[.int .i64 x0, .int .i64 x1, .int .i64 x2, .int .i64 x3], .agg #[.int .i64 y0, .int .i64 y1, .int .i64 y2, .int .i64 y3]] w fun e w' => e = .returned (.int .i64 r) ∧ Below w.heap.size w w' := by
  obtain rfl := Option.some.inj h
  exact syzygyref08_lex.calls_ x0 x1 x2 x3 y0 y1 y2 y3 w

/-! ### syzygyref08_Degree: function 56 -/
def syzygyref08_Degree.v (x0 x1 x2 x3 : Int) : Int := cond (syzygyref08_May.v x0 x1 x2 x3) (wrap64 (wrap64 (wrap64 (wrap64 x0 + x1) + x2) + x3)) 0
set_option maxHeartbeats 2000000 in
set_option maxRecDepth 100000 in
theorem syzygyref08_Degree.calls_ (x0 x1 x2 x3 : Int) (w : World) : Calls Try.prog 56 #[.agg #[.int .i64 x0, .int .i64 x1, .int .i64 x2, .int .i64 x3]] w fun e w' => e = .returned (.int .i64 (syzygyref08_Degree.v x0 x1 x2 x3)) ∧ Below w.heap.size w w' := by
  have HB := Aside0.mk (blk_new w (.cells #[.int .i64 x0, .int .i64 x1, .int .i64 x2, .int .i64 x3] 36))
  have HD := Aside0.mk (below_alloc (Below.refl _ w) (.cells #[.int .i64 x0, .int .i64 x1, .int .i64 x2, .int .i64 x3] 36))
  have HM := Aside0.mk (syzygyref08_May.calls_ x0 x1 x2 x3)
  unfold syzygyref08_Degree.v
  cases hv : syzygyref08_May.v x0 x1 x2 x3 with
  | false =>
    go_enter Try.func56, Try.ntmps56
    go_wp2_with fail
    generalize w.alloc (.cells #[.int .i64 x0, .int .i64 x1, .int .i64 x2, .int .i64 x3] 36) = v0 at HB HD ⊢
    obtain ⟨c0, c1, c2, c3⟩ := cells4 HB.out
    go_wp2_with fail
    refine (HM.out v0).mono ?_
    rw [hv]
    rintro e v1 ⟨rfl, hb⟩
    have HB1 := Aside0.mk (blk_below HB.out hb)
    have HD1 := Aside0.mk (HD.out.trans (hb.mono HD.out.size))
    clear hb hv HM HB HD c0 c1 c2 c3
    obtain ⟨c0, c1, c2, c3⟩ := cells4 HB1.out
    go_wp2
    go_ret
    exact ⟨rfl, HD1.out⟩
  | true =>
    go_enter Try.func56, Try.ntmps56
    go_wp2_with fail
    generalize w.alloc (.cells #[.int .i64 x0, .int .i64 x1, .int .i64 x2, .int .i64 x3] 36) = v0 at HB HD ⊢
    obtain ⟨c0, c1, c2, c3⟩ := cells4 HB.out
    go_wp2_with fail
    refine (HM.out v0).mono ?_
    rw [hv]
    rintro e v1 ⟨rfl, hb⟩
    have HB1 := Aside0.mk (blk_below HB.out hb)
    have HD1 := Aside0.mk (HD.out.trans (hb.mono HD.out.size))
    clear hb hv HM HB HD c0 c1 c2 c3
    obtain ⟨c0, c1, c2, c3⟩ := cells4 HB1.out
    go_wp2
    refine wp_loop_rounds 5 ?_
    rw [rounds_succ]
    go_wp2
    rw [rounds_succ]
    go_wp2
    rw [rounds_succ]
    go_wp2
    rw [rounds_succ]
    go_wp2
    rw [rounds_succ]
    go_wp2
    go_ret
    exact ⟨rfl, HD1.out⟩
def syzygyref08_Degree.f (x0 x1 x2 x3 : Int) : Option Int := some (syzygyref08_Degree.v x0 x1 x2 x3)
theorem syzygyref08_Degree.calls (x0 x1 x2 x3 : Int) (r : Int) (w : World) (h : syzygyref08_Degree.f x0 x1 x2 x3 = some r) :
    Calls Try.prog 56 #[.agg #[.int .i64 x0, .int .i64 x1, .int .i64 x2, .int .i64 x3]] w fun e w' => e = .returned (.int .i64 r) ∧ Below w.heap.size w w' := by
  obtain rfl := Option.some.inj h
  exact syzygyref08_Degree.calls_ x0 x1 x2 x3 w

end Go.Proofs.Ytfoickaangjmnaa.POQueueAll
