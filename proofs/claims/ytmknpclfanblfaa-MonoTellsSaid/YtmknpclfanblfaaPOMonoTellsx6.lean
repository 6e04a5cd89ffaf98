-- Written by a program of this session (pr.py, over the kit's print.py).
import Derived.Test.YtmknpclfanblfaaPOMonoTellsx0
import Derived.Test.YtmknpclfanblfaaPOMonoTellsx5
namespace Go.Proofs.Ytmknpclfanblfaa.POMonoTells
open Go.RowKit Go.Proofs.YtmknpclfanblfaaN Go.Proofs.YtmknpclfanblfaaW.PrintWords Go.Proofs.YtmknpclfanblfaaW.PrintLast Go.Proofs.YtmknpclfanblfaaW.PrintMore
attribute [local go_sem] max2_int min2_int max_two min_two max_three min_three max_four min_four   -- for this text's walks alone
set_option linter.unusedVariables false
set_option linter.unusedSimpArgs false

/-! ### syzygyref08_Mul: function 31 -/
def syzygyref08_Mul.v (x0 x1 x2 x3 y0 y1 y2 y3 : Int) : Int × Int × Int × Int × Int := cond (syzygyref08_May.v x0 x1 x2 x3) (cond (syzygyref08_May.v y0 y1 y2 y3) (cond (syzygyref08_May.v (wrap64 (x0 + y0)) (wrap64 (x1 + y1)) (wrap64 (x2 + y2)) (wrap64 (x3 + y3))) ((wrap64 (x0 + y0)), (wrap64 (x1 + y1)), (wrap64 (x2 + y2)), (wrap64 (x3 + y3)), 0) (0, 0, 0, 0, 80)) (0, 0, 0, 0, 1)) (0, 0, 0, 0, 1)
set_option maxHeartbeats 4000000 in
theorem syzygyref08_Mul.calls_ (x0 x1 x2 x3 y0 y1 y2 y3 : Int) (w : World) : Calls Try.prog 31 #[.agg #[.int .i64 x0, .int .i64 x1, .int .i64 x2, .int .i64 x3], .agg #[.int .i64 y0, .int .i64 y1, .int .i64 y2, .int .i64 y3]] w fun e w' => e = .returned (match syzygyref08_Mul.v x0 x1 x2 x3 y0 y1 y2 y3 with | (r0, r1, r2, r3, e) => .tuple #[.agg #[.int .i64 r0, .int .i64 r1, .int .i64 r2, .int .i64 r3], .int .i64 e]) ∧ Below w.heap.size w w' := by
  unfold syzygyref08_Mul.v
  have HM := Aside0.mk (syzygyref08_May.calls_ x0 x1 x2 x3)
  have HN := Aside0.mk (syzygyref08_May.calls_ y0 y1 y2 y3)
  have HS := Aside0.mk (syzygyref08_May.calls_ (wrap64 (x0 + y0)) (wrap64 (x1 + y1)) (wrap64 (x2 + y2)) (wrap64 (x3 + y3)))
  have hA := blk_alloc (blk_alloc (blk_new w (.cells #[.int .i64 x0, .int .i64 x1, .int .i64 x2, .int .i64 x3] 24)) (.cells #[.int .i64 y0, .int .i64 y1, .int .i64 y2, .int .i64 y3] 24)) (.cells #[.int .i64 0, .int .i64 0, .int .i64 0, .int .i64 0] 24)
  have hB := blk_alloc (blk_new (w.alloc (.cells #[.int .i64 x0, .int .i64 x1, .int .i64 x2, .int .i64 x3] 24)) (.cells #[.int .i64 y0, .int .i64 y1, .int .i64 y2, .int .i64 y3] 24)) (.cells #[.int .i64 0, .int .i64 0, .int .i64 0, .int .i64 0] 24)
  have hR := blk_new ((w.alloc (.cells #[.int .i64 x0, .int .i64 x1, .int .i64 x2, .int .i64 x3] 24)).alloc (.cells #[.int .i64 y0, .int .i64 y1, .int .i64 y2, .int .i64 y3] 24)) (.cells #[.int .i64 0, .int .i64 0, .int .i64 0, .int .i64 0] 24)
  have hD := below_alloc (below_alloc (below_alloc (Below.refl _ w) (.cells #[.int .i64 x0, .int .i64 x1, .int .i64 x2, .int .i64 x3] 24)) (.cells #[.int .i64 y0, .int .i64 y1, .int .i64 y2, .int .i64 y3] 24)) (.cells #[.int .i64 0, .int .i64 0, .int .i64 0, .int .i64 0] 24)
  simp only [World.size_alloc] at hA hB hR
  have HA0 := Aside0.mk hA
  have HB0 := Aside0.mk hB
  have HR0 := Aside0.mk hR
  have HD0 := Aside0.mk hD
  clear hA hB hR hD
  cases hv : syzygyref08_May.v x0 x1 x2 x3 with
  | false =>
    simp only [cond_false]
    go_enter Try.func31, Try.ntmps31
    go_wp2_with fail
    generalize ((w.alloc (.cells #[.int .i64 x0, .int .i64 x1, .int .i64 x2, .int .i64 x3] 24)).alloc (.cells #[.int .i64 y0, .int .i64 y1, .int .i64 y2, .int .i64 y3] 24)).alloc (.cells #[.int .i64 0, .int .i64 0, .int .i64 0, .int .i64 0] 24) = t0 at HA0 HB0 HR0 HD0 ⊢
    obtain ⟨a0, a1, a2, a3⟩ := cells4 HA0.out
    go_wp2_with fail
    refine (HM.out t0).mono ?_
    rw [hv]
    rintro e t1 ⟨rfl, hb⟩
    have HA1 := Aside0.mk (blk_below HA0.out hb)
    have HB1 := Aside0.mk (blk_below HB0.out hb)
    have HR1 := Aside0.mk (blk_below HR0.out hb)
    have HD1 := Aside0.mk (HD0.out.trans (hb.mono HD0.out.size))
    clear hb HA0 HB0 HR0 HD0
    clear a0 a1 a2 a3
    have f0 : t1.frozen? ⟨w.heap.size + 1 + 1, 0, none⟩ = false := blk_frozen HR1.out 0
    have f1 : t1.frozen? ⟨w.heap.size + 1 + 1, 1, none⟩ = false := blk_frozen HR1.out 1
    have f2 : t1.frozen? ⟨w.heap.size + 1 + 1, 2, none⟩ = false := blk_frozen HR1.out 2
    have f3 : t1.frozen? ⟨w.heap.size + 1 + 1, 3, none⟩ = false := blk_frozen HR1.out 3
    obtain ⟨r0, r1, r2, r3⟩ := cells4 HR1.out
    go_wp2
    have HR5 := Aside0.mk (blk_put (cs' := #[.int .i64 0, .int .i64 0, .int .i64 0, .int .i64 0]) (blk_put (cs' := #[.int .i64 0, .int .i64 0, .int .i64 0, .int .i64 0]) (blk_put (cs' := #[.int .i64 0, .int .i64 0, .int .i64 0, .int .i64 0]) (blk_put (cs' := #[.int .i64 0, .int .i64 0, .int .i64 0, .int .i64 0]) HR1.out 0 (.int .i64 0) rfl) 1 (.int .i64 0) rfl) 2 (.int .i64 0) rfl) 3 (.int .i64 0) rfl)
    have HD5 := Aside0.mk (Below.setCell (Below.setCell (Below.setCell (Below.setCell HD1.out (p := ⟨w.heap.size + 1 + 1, 0, none⟩) (by show w.heap.size ≤ w.heap.size + 1 + 1; omega) (.int .i64 0)) (p := ⟨w.heap.size + 1 + 1, 1, none⟩) (by show w.heap.size ≤ w.heap.size + 1 + 1; omega) (.int .i64 0)) (p := ⟨w.heap.size + 1 + 1, 2, none⟩) (by show w.heap.size ≤ w.heap.size + 1 + 1; omega) (.int .i64 0)) (p := ⟨w.heap.size + 1 + 1, 3, none⟩) (by show w.heap.size ≤ w.heap.size + 1 + 1; omega) (.int .i64 0))
    generalize (((t1.setCell ⟨w.heap.size + 1 + 1, 0, none⟩ (.int .i64 0)).setCell ⟨w.heap.size + 1 + 1, 1, none⟩ (.int .i64 0)).setCell ⟨w.heap.size + 1 + 1, 2, none⟩ (.int .i64 0)).setCell ⟨w.heap.size + 1 + 1, 3, none⟩ (.int .i64 0) = v9 at HR5 HD5 ⊢
    obtain ⟨d0, d1, d2, d3⟩ := cells4 HR5.out
    exact bodyPost_ret (v := .tuple #[.agg #[.int .i64 0, .int .i64 0, .int .i64 0, .int .i64 0], .int .i64 1]) (by simp [results, Try.results31, go_sem, d0, d1, d2, d3]) rfl ⟨rfl, HD5.out⟩
  | true =>
    cases hu : syzygyref08_May.v y0 y1 y2 y3 with
    | false =>
      simp only [cond_true, cond_false]
      go_enter Try.func31, Try.ntmps31
      go_wp2_with fail
      generalize ((w.alloc (.cells #[.int .i64 x0, .int .i64 x1, .int .i64 x2, .int .i64 x3] 24)).alloc (.cells #[.int .i64 y0, .int .i64 y1, .int .i64 y2, .int .i64 y3] 24)).alloc (.cells #[.int .i64 0, .int .i64 0, .int .i64 0, .int .i64 0] 24) = t0 at HA0 HB0 HR0 HD0 ⊢
      obtain ⟨a0, a1, a2, a3⟩ := cells4 HA0.out
      go_wp2_with fail
      refine (HM.out t0).mono ?_
      rw [hv]
      rintro e t1 ⟨rfl, hb⟩
      have HA1 := Aside0.mk (blk_below HA0.out hb)
      have HB1 := Aside0.mk (blk_below HB0.out hb)
      have HR1 := Aside0.mk (blk_below HR0.out hb)
      have HD1 := Aside0.mk (HD0.out.trans (hb.mono HD0.out.size))
      clear hb HA0 HB0 HR0 HD0
      clear a0 a1 a2 a3
      obtain ⟨b0, b1, b2, b3⟩ := cells4 HB1.out
      go_wp2_with fail
      refine (HN.out t1).mono ?_
      rw [hu]
      rintro e t2 ⟨rfl, hb⟩
      have HA2 := Aside0.mk (blk_below HA1.out hb)
      have HB2 := Aside0.mk (blk_below HB1.out hb)
      have HR2 := Aside0.mk (blk_below HR1.out hb)
      have HD2 := Aside0.mk (HD1.out.trans (hb.mono HD1.out.size))
      clear hb HA1 HB1 HR1 HD1
      clear b0 b1 b2 b3
      have f0 : t2.frozen? ⟨w.heap.size + 1 + 1, 0, none⟩ = false := blk_frozen HR2.out 0
      have f1 : t2.frozen? ⟨w.heap.size + 1 + 1, 1, none⟩ = false := blk_frozen HR2.out 1
      have f2 : t2.frozen? ⟨w.heap.size + 1 + 1, 2, none⟩ = false := blk_frozen HR2.out 2
      have f3 : t2.frozen? ⟨w.heap.size + 1 + 1, 3, none⟩ = false := blk_frozen HR2.out 3
      obtain ⟨r0, r1, r2, r3⟩ := cells4 HR2.out
      go_wp2
      have HR5 := Aside0.mk (blk_put (cs' := #[.int .i64 0, .int .i64 0, .int .i64 0, .int .i64 0]) (blk_put (cs' := #[.int .i64 0, .int .i64 0, .int .i64 0, .int .i64 0]) (blk_put (cs' := #[.int .i64 0, .int .i64 0, .int .i64 0, .int .i64 0]) (blk_put (cs' := #[.int .i64 0, .int .i64 0, .int .i64 0, .int .i64 0]) HR2.out 0 (.int .i64 0) rfl) 1 (.int .i64 0) rfl) 2 (.int .i64 0) rfl) 3 (.int .i64 0) rfl)
      have HD5 := Aside0.mk (Below.setCell (Below.setCell (Below.setCell (Below.setCell HD2.out (p := ⟨w.heap.size + 1 + 1, 0, none⟩) (by show w.heap.size ≤ w.heap.size + 1 + 1; omega) (.int .i64 0)) (p := ⟨w.heap.size + 1 + 1, 1, none⟩) (by show w.heap.size ≤ w.heap.size + 1 + 1; omega) (.int .i64 0)) (p := ⟨w.heap.size + 1 + 1, 2, none⟩) (by show w.heap.size ≤ w.heap.size + 1 + 1; omega) (.int .i64 0)) (p := ⟨w.heap.size + 1 + 1, 3, none⟩) (by show w.heap.size ≤ w.heap.size + 1 + 1; omega) (.int .i64 0))
      generalize (((t2.setCell ⟨w.heap.size + 1 + 1, 0, none⟩ (.int .i64 0)).setCell ⟨w.heap.size + 1 + 1, 1, none⟩ (.int .i64 0)).setCell ⟨w.heap.size + 1 + 1, 2, none⟩ (.int .i64 0)).setCell ⟨w.heap.size + 1 + 1, 3, none⟩ (.int .i64 0) = v9 at HR5 HD5 ⊢
      obtain ⟨d0, d1, d2, d3⟩ := cells4 HR5.out
      exact bodyPost_ret (v := .tuple #[.agg #[.int .i64 0, .int .i64 0, .int .i64 0, .int .i64 0], .int .i64 1]) (by simp [results, Try.results31, go_sem, d0, d1, d2, d3]) rfl ⟨rfl, HD5.out⟩
    | true =>
      cases hs : syzygyref08_May.v (wrap64 (x0 + y0)) (wrap64 (x1 + y1)) (wrap64 (x2 + y2)) (wrap64 (x3 + y3)) with
      | false =>
        simp only [cond_true, cond_false]
        go_enter Try.func31, Try.ntmps31
        go_wp2_with fail
        generalize ((w.alloc (.cells #[.int .i64 x0, .int .i64 x1, .int .i64 x2, .int .i64 x3] 24)).alloc (.cells #[.int .i64 y0, .int .i64 y1, .int .i64 y2, .int .i64 y3] 24)).alloc (.cells #[.int .i64 0, .int .i64 0, .int .i64 0, .int .i64 0] 24) = t0 at HA0 HB0 HR0 HD0 ⊢
        obtain ⟨a0, a1, a2, a3⟩ := cells4 HA0.out
        go_wp2_with fail
        refine (HM.out t0).mono ?_
        rw [hv]
        rintro e t1 ⟨rfl, hb⟩
        have HA1 := Aside0.mk (blk_below HA0.out hb)
        have HB1 := Aside0.mk (blk_below HB0.out hb)
        have HR1 := Aside0.mk (blk_below HR0.out hb)
        have HD1 := Aside0.mk (HD0.out.trans (hb.mono HD0.out.size))
        clear hb HA0 HB0 HR0 HD0
        clear a0 a1 a2 a3
        obtain ⟨b0, b1, b2, b3⟩ := cells4 HB1.out
        go_wp2_with fail
        refine (HN.out t1).mono ?_
        rw [hu]
        rintro e t2 ⟨rfl, hb⟩
        have HA2 := Aside0.mk (blk_below HA1.out hb)
        have HB2 := Aside0.mk (blk_below HB1.out hb)
        have HR2 := Aside0.mk (blk_below HR1.out hb)
        have HD2 := Aside0.mk (HD1.out.trans (hb.mono HD1.out.size))
        clear hb HA1 HB1 HR1 HD1
        clear b0 b1 b2 b3
        have hz := blk_lt HR2.out
        go_wp2_with fail
        have HA := Aside0.mk (blk_alloc HA2.out (.cells #[.int .i64 0, .int .i64 0, .int .i64 0, .int .i64 0] 24))
        have HB := Aside0.mk (blk_alloc HB2.out (.cells #[.int .i64 0, .int .i64 0, .int .i64 0, .int .i64 0] 24))
        have HR := Aside0.mk (blk_alloc HR2.out (.cells #[.int .i64 0, .int .i64 0, .int .i64 0, .int .i64 0] 24))
        have HO := Aside0.mk (blk_new t2 (.cells #[.int .i64 0, .int .i64 0, .int .i64 0, .int .i64 0] 24))
        have HD := Aside0.mk (below_alloc HD2.out (.cells #[.int .i64 0, .int .i64 0, .int .i64 0, .int .i64 0] 24))
        clear HA2 HB2 HR2 HD2
        generalize t2.alloc (.cells #[.int .i64 0, .int .i64 0, .int .i64 0, .int .i64 0] 24) = v0 at HA HB HR HO HD ⊢
        refine wp_loop_rounds 5 ?_
        rw [rounds_succ]
        go_wp2
        have ca : (v0.drew).cell? ⟨w.heap.size, 0, none⟩ = some (.int .i64 x0) := (blk_cell (blk_drew HA.out) 0).trans rfl
        have cb : (v0.drew).cell? ⟨w.heap.size + 1, 0, none⟩ = some (.int .i64 y0) := (blk_cell (blk_drew HB.out) 0).trans rfl
        have cc : (v0.drew).cell? ⟨t2.heap.size, 0, none⟩ = some (.int .i64 0) := (blk_cell (blk_drew HO.out) 0).trans rfl
        have cf : (v0.drew).frozen? ⟨t2.heap.size, 0, none⟩ = false := blk_frozen (blk_drew HO.out) 0
        have KA := Aside0.mk (blk_drew HA.out)
        have KB := Aside0.mk (blk_drew HB.out)
        have KO := Aside0.mk (blk_drew HO.out)
        have KR := Aside0.mk (blk_drew HR.out)
        have KD := Aside0.mk (below_drew HD.out)
        refine wp_region_still_tail 9 (by kernel_rfl) (by kernel_rfl) ?_
        change wpStill Try.prog _ v0.drew (fun a' => wpList Try.prog _ _ _ a' v0.drew) _ _
        generalize v0.drew = u0 at KA KB KO KR KD ca cb cc cf ⊢
        clear HA HB HO HR HD
        simp only [List.take_succ_cons, List.take_zero, List.drop_succ_cons, List.drop_zero]
        repeat still_step
        refine wpStill_nil ?_
        go_wp2
        have HA := Aside0.mk (blk_far KA.out (p := ⟨t2.heap.size, 0, none⟩) (by show _ ≠ t2.heap.size; omega) (.int .i64 (wrap64 (x0 + y0))))
        have HB := Aside0.mk (blk_far KB.out (p := ⟨t2.heap.size, 0, none⟩) (by show _ ≠ t2.heap.size; omega) (.int .i64 (wrap64 (x0 + y0))))
        have HR := Aside0.mk (blk_far KR.out (p := ⟨t2.heap.size, 0, none⟩) (by show _ ≠ t2.heap.size; omega) (.int .i64 (wrap64 (x0 + y0))))
        have HO := Aside0.mk (blk_put (cs' := #[.int .i64 (wrap64 (x0 + y0)), .int .i64 0, .int .i64 0, .int .i64 0]) KO.out 0 (.int .i64 (wrap64 (x0 + y0))) rfl)
        have HD := Aside0.mk (Below.setCell KD.out (p := ⟨t2.heap.size, 0, none⟩) (by show w.heap.size ≤ t2.heap.size; omega) (.int .i64 (wrap64 (x0 + y0))))
        generalize u0.setCell ⟨t2.heap.size, 0, none⟩ (.int .i64 (wrap64 (x0 + y0))) = v1 at HA HB HO HR HD ⊢
        clear KA KB KO KR KD ca cb cc cf
        rw [rounds_succ]
        go_wp2
        have ca : (v1.drew).cell? ⟨w.heap.size, 1, none⟩ = some (.int .i64 x1) := (blk_cell (blk_drew HA.out) 1).trans rfl
        have cb : (v1.drew).cell? ⟨w.heap.size + 1, 1, none⟩ = some (.int .i64 y1) := (blk_cell (blk_drew HB.out) 1).trans rfl
        have cc : (v1.drew).cell? ⟨t2.heap.size, 1, none⟩ = some (.int .i64 0) := (blk_cell (blk_drew HO.out) 1).trans rfl
        have cf : (v1.drew).frozen? ⟨t2.heap.size, 1, none⟩ = false := blk_frozen (blk_drew HO.out) 1
        have KA := Aside0.mk (blk_drew HA.out)
        have KB := Aside0.mk (blk_drew HB.out)
        have KO := Aside0.mk (blk_drew HO.out)
        have KR := Aside0.mk (blk_drew HR.out)
        have KD := Aside0.mk (below_drew HD.out)
        refine wp_region_still_tail 9 (by kernel_rfl) (by kernel_rfl) ?_
        change wpStill Try.prog _ v1.drew (fun a' => wpList Try.prog _ _ _ a' v1.drew) _ _
        generalize v1.drew = u1 at KA KB KO KR KD ca cb cc cf ⊢
        clear HA HB HO HR HD
        simp only [List.take_succ_cons, List.take_zero, List.drop_succ_cons, List.drop_zero]
        repeat still_step
        refine wpStill_nil ?_
        go_wp2
        have HA := Aside0.mk (blk_far KA.out (p := ⟨t2.heap.size, 1, none⟩) (by show _ ≠ t2.heap.size; omega) (.int .i64 (wrap64 (x1 + y1))))
        have HB := Aside0.mk (blk_far KB.out (p := ⟨t2.heap.size, 1, none⟩) (by show _ ≠ t2.heap.size; omega) (.int .i64 (wrap64 (x1 + y1))))
        have HR := Aside0.mk (blk_far KR.out (p := ⟨t2.heap.size, 1, none⟩) (by show _ ≠ t2.heap.size; omega) (.int .i64 (wrap64 (x1 + y1))))
        have HO := Aside0.mk (blk_put (cs' := #[.int .i64 (wrap64 (x0 + y0)), .int .i64 (wrap64 (x1 + y1)), .int .i64 0, .int .i64 0]) KO.out 1 (.int .i64 (wrap64 (x1 + y1))) rfl)
        have HD := Aside0.mk (Below.setCell KD.out (p := ⟨t2.heap.size, 1, none⟩) (by show w.heap.size ≤ t2.heap.size; omega) (.int .i64 (wrap64 (x1 + y1))))
        generalize u1.setCell ⟨t2.heap.size, 1, none⟩ (.int .i64 (wrap64 (x1 + y1))) = v2 at HA HB HO HR HD ⊢
        clear KA KB KO KR KD ca cb cc cf
        rw [rounds_succ]
        go_wp2
        have ca : (v2.drew).cell? ⟨w.heap.size, 2, none⟩ = some (.int .i64 x2) := (blk_cell (blk_drew HA.out) 2).trans rfl
        have cb : (v2.drew).cell? ⟨w.heap.size + 1, 2, none⟩ = some (.int .i64 y2) := (blk_cell (blk_drew HB.out) 2).trans rfl
        have cc : (v2.drew).cell? ⟨t2.heap.size, 2, none⟩ = some (.int .i64 0) := (blk_cell (blk_drew HO.out) 2).trans rfl
        have cf : (v2.drew).frozen? ⟨t2.heap.size, 2, none⟩ = false := blk_frozen (blk_drew HO.out) 2
        have KA := Aside0.mk (blk_drew HA.out)
        have KB := Aside0.mk (blk_drew HB.out)
        have KO := Aside0.mk (blk_drew HO.out)
        have KR := Aside0.mk (blk_drew HR.out)
        have KD := Aside0.mk (below_drew HD.out)
        refine wp_region_still_tail 9 (by kernel_rfl) (by kernel_rfl) ?_
        change wpStill Try.prog _ v2.drew (fun a' => wpList Try.prog _ _ _ a' v2.drew) _ _
        generalize v2.drew = u2 at KA KB KO KR KD ca cb cc cf ⊢
        clear HA HB HO HR HD
        simp only [List.take_succ_cons, List.take_zero, List.drop_succ_cons, List.drop_zero]
        repeat still_step
        refine wpStill_nil ?_
        go_wp2
        have HA := Aside0.mk (blk_far KA.out (p := ⟨t2.heap.size, 2, none⟩) (by show _ ≠ t2.heap.size; omega) (.int .i64 (wrap64 (x2 + y2))))
        have HB := Aside0.mk (blk_far KB.out (p := ⟨t2.heap.size, 2, none⟩) (by show _ ≠ t2.heap.size; omega) (.int .i64 (wrap64 (x2 + y2))))
        have HR := Aside0.mk (blk_far KR.out (p := ⟨t2.heap.size, 2, none⟩) (by show _ ≠ t2.heap.size; omega) (.int .i64 (wrap64 (x2 + y2))))
        have HO := Aside0.mk (blk_put (cs' := #[.int .i64 (wrap64 (x0 + y0)), .int .i64 (wrap64 (x1 + y1)), .int .i64 (wrap64 (x2 + y2)), .int .i64 0]) KO.out 2 (.int .i64 (wrap64 (x2 + y2))) rfl)
        have HD := Aside0.mk (Below.setCell KD.out (p := ⟨t2.heap.size, 2, none⟩) (by show w.heap.size ≤ t2.heap.size; omega) (.int .i64 (wrap64 (x2 + y2))))
        generalize u2.setCell ⟨t2.heap.size, 2, none⟩ (.int .i64 (wrap64 (x2 + y2))) = v3 at HA HB HO HR HD ⊢
        clear KA KB KO KR KD ca cb cc cf
        rw [rounds_succ]
        go_wp2
        have ca : (v3.drew).cell? ⟨w.heap.size, 3, none⟩ = some (.int .i64 x3) := (blk_cell (blk_drew HA.out) 3).trans rfl
        have cb : (v3.drew).cell? ⟨w.heap.size + 1, 3, none⟩ = some (.int .i64 y3) := (blk_cell (blk_drew HB.out) 3).trans rfl
        have cc : (v3.drew).cell? ⟨t2.heap.size, 3, none⟩ = some (.int .i64 0) := (blk_cell (blk_drew HO.out) 3).trans rfl
        have cf : (v3.drew).frozen? ⟨t2.heap.size, 3, none⟩ = false := blk_frozen (blk_drew HO.out) 3
        have KA := Aside0.mk (blk_drew HA.out)
        have KB := Aside0.mk (blk_drew HB.out)
        have KO := Aside0.mk (blk_drew HO.out)
        have KR := Aside0.mk (blk_drew HR.out)
        have KD := Aside0.mk (below_drew HD.out)
        refine wp_region_still_tail 9 (by kernel_rfl) (by kernel_rfl) ?_
        change wpStill Try.prog _ v3.drew (fun a' => wpList Try.prog _ _ _ a' v3.drew) _ _
        generalize v3.drew = u3 at KA KB KO KR KD ca cb cc cf ⊢
        clear HA HB HO HR HD
        simp only [List.take_succ_cons, List.take_zero, List.drop_succ_cons, List.drop_zero]
        repeat still_step
        refine wpStill_nil ?_
        go_wp2
        have HA := Aside0.mk (blk_far KA.out (p := ⟨t2.heap.size, 3, none⟩) (by show _ ≠ t2.heap.size; omega) (.int .i64 (wrap64 (x3 + y3))))
        have HB := Aside0.mk (blk_far KB.out (p := ⟨t2.heap.size, 3, none⟩) (by show _ ≠ t2.heap.size; omega) (.int .i64 (wrap64 (x3 + y3))))
        have HR := Aside0.mk (blk_far KR.out (p := ⟨t2.heap.size, 3, none⟩) (by show _ ≠ t2.heap.size; omega) (.int .i64 (wrap64 (x3 + y3))))
        have HO := Aside0.mk (blk_put (cs' := #[.int .i64 (wrap64 (x0 + y0)), .int .i64 (wrap64 (x1 + y1)), .int .i64 (wrap64 (x2 + y2)), .int .i64 (wrap64 (x3 + y3))]) KO.out 3 (.int .i64 (wrap64 (x3 + y3))) rfl)
        have HD := Aside0.mk (Below.setCell KD.out (p := ⟨t2.heap.size, 3, none⟩) (by show w.heap.size ≤ t2.heap.size; omega) (.int .i64 (wrap64 (x3 + y3))))
        generalize u3.setCell ⟨t2.heap.size, 3, none⟩ (.int .i64 (wrap64 (x3 + y3))) = v4 at HA HB HO HR HD ⊢
        clear KA KB KO KR KD ca cb cc cf
        rw [rounds_succ]
        obtain ⟨o0, o1, o2, o3⟩ := cells4 HO.out
        go_wp2_with fail
        refine (HS.out v4).mono ?_
        rw [hs]
        rintro e v6 ⟨rfl, hb⟩
        have HR6 := Aside0.mk (blk_below HR.out hb)
        have HO6 := Aside0.mk (blk_below HO.out hb)
        have HD6 := Aside0.mk (HD.out.trans (hb.mono HD.out.size))
        clear hb HR HO HD
        clear o0 o1 o2 o3
        have f0 : v6.frozen? ⟨w.heap.size + 1 + 1, 0, none⟩ = false := blk_frozen HR6.out 0
        have f1 : v6.frozen? ⟨w.heap.size + 1 + 1, 1, none⟩ = false := blk_frozen HR6.out 1
        have f2 : v6.frozen? ⟨w.heap.size + 1 + 1, 2, none⟩ = false := blk_frozen HR6.out 2
        have f3 : v6.frozen? ⟨w.heap.size + 1 + 1, 3, none⟩ = false := blk_frozen HR6.out 3
        obtain ⟨r0, r1, r2, r3⟩ := cells4 HR6.out
        go_wp2
        have HR5 := Aside0.mk (blk_put (cs' := #[.int .i64 0, .int .i64 0, .int .i64 0, .int .i64 0]) (blk_put (cs' := #[.int .i64 0, .int .i64 0, .int .i64 0, .int .i64 0]) (blk_put (cs' := #[.int .i64 0, .int .i64 0, .int .i64 0, .int .i64 0]) (blk_put (cs' := #[.int .i64 0, .int .i64 0, .int .i64 0, .int .i64 0]) HR6.out 0 (.int .i64 0) rfl) 1 (.int .i64 0) rfl) 2 (.int .i64 0) rfl) 3 (.int .i64 0) rfl)
        have HD5 := Aside0.mk (Below.setCell (Below.setCell (Below.setCell (Below.setCell HD6.out (p := ⟨w.heap.size + 1 + 1, 0, none⟩) (by show w.heap.size ≤ w.heap.size + 1 + 1; omega) (.int .i64 0)) (p := ⟨w.heap.size + 1 + 1, 1, none⟩) (by show w.heap.size ≤ w.heap.size + 1 + 1; omega) (.int .i64 0)) (p := ⟨w.heap.size + 1 + 1, 2, none⟩) (by show w.heap.size ≤ w.heap.size + 1 + 1; omega) (.int .i64 0)) (p := ⟨w.heap.size + 1 + 1, 3, none⟩) (by show w.heap.size ≤ w.heap.size + 1 + 1; omega) (.int .i64 0))
        generalize (((v6.setCell ⟨w.heap.size + 1 + 1, 0, none⟩ (.int .i64 0)).setCell ⟨w.heap.size + 1 + 1, 1, none⟩ (.int .i64 0)).setCell ⟨w.heap.size + 1 + 1, 2, none⟩ (.int .i64 0)).setCell ⟨w.heap.size + 1 + 1, 3, none⟩ (.int .i64 0) = v9 at HR5 HD5 ⊢
        obtain ⟨d0, d1, d2, d3⟩ := cells4 HR5.out
        exact bodyPost_ret (v := .tuple #[.agg #[.int .i64 0, .int .i64 0, .int .i64 0, .int .i64 0], .int .i64 80]) (by simp [results, Try.results31, go_sem, d0, d1, d2, d3]) rfl ⟨rfl, HD5.out⟩
      | true =>
        simp only [cond_true]
        go_enter Try.func31, Try.ntmps31
        go_wp2_with fail
        generalize ((w.alloc (.cells #[.int .i64 x0, .int .i64 x1, .int .i64 x2, .int .i64 x3] 24)).alloc (.cells #[.int .i64 y0, .int .i64 y1, .int .i64 y2, .int .i64 y3] 24)).alloc (.cells #[.int .i64 0, .int .i64 0, .int .i64 0, .int .i64 0] 24) = t0 at HA0 HB0 HR0 HD0 ⊢
        obtain ⟨a0, a1, a2, a3⟩ := cells4 HA0.out
        go_wp2_with fail
        refine (HM.out t0).mono ?_
        rw [hv]
        rintro e t1 ⟨rfl, hb⟩
        have HA1 := Aside0.mk (blk_below HA0.out hb)
        have HB1 := Aside0.mk (blk_below HB0.out hb)
        have HR1 := Aside0.mk (blk_below HR0.out hb)
        have HD1 := Aside0.mk (HD0.out.trans (hb.mono HD0.out.size))
        clear hb HA0 HB0 HR0 HD0
        clear a0 a1 a2 a3
        obtain ⟨b0, b1, b2, b3⟩ := cells4 HB1.out
        go_wp2_with fail
        refine (HN.out t1).mono ?_
        rw [hu]
        rintro e t2 ⟨rfl, hb⟩
        have HA2 := Aside0.mk (blk_below HA1.out hb)
        have HB2 := Aside0.mk (blk_below HB1.out hb)
        have HR2 := Aside0.mk (blk_below HR1.out hb)
        have HD2 := Aside0.mk (HD1.out.trans (hb.mono HD1.out.size))
        clear hb HA1 HB1 HR1 HD1
        clear b0 b1 b2 b3
        have hz := blk_lt HR2.out
        go_wp2_with fail
        have HA := Aside0.mk (blk_alloc HA2.out (.cells #[.int .i64 0, .int .i64 0, .int .i64 0, .int .i64 0] 24))
        have HB := Aside0.mk (blk_alloc HB2.out (.cells #[.int .i64 0, .int .i64 0, .int .i64 0, .int .i64 0] 24))
        have HR := Aside0.mk (blk_alloc HR2.out (.cells #[.int .i64 0, .int .i64 0, .int .i64 0, .int .i64 0] 24))
        have HO := Aside0.mk (blk_new t2 (.cells #[.int .i64 0, .int .i64 0, .int .i64 0, .int .i64 0] 24))
        have HD := Aside0.mk (below_alloc HD2.out (.cells #[.int .i64 0, .int .i64 0, .int .i64 0, .int .i64 0] 24))
        clear HA2 HB2 HR2 HD2
        generalize t2.alloc (.cells #[.int .i64 0, .int .i64 0, .int .i64 0, .int .i64 0] 24) = v0 at HA HB HR HO HD ⊢
        refine wp_loop_rounds 5 ?_
        rw [rounds_succ]
        go_wp2
        have ca : (v0.drew).cell? ⟨w.heap.size, 0, none⟩ = some (.int .i64 x0) := (blk_cell (blk_drew HA.out) 0).trans rfl
        have cb : (v0.drew).cell? ⟨w.heap.size + 1, 0, none⟩ = some (.int .i64 y0) := (blk_cell (blk_drew HB.out) 0).trans rfl
        have cc : (v0.drew).cell? ⟨t2.heap.size, 0, none⟩ = some (.int .i64 0) := (blk_cell (blk_drew HO.out) 0).trans rfl
        have cf : (v0.drew).frozen? ⟨t2.heap.size, 0, none⟩ = false := blk_frozen (blk_drew HO.out) 0
        have KA := Aside0.mk (blk_drew HA.out)
        have KB := Aside0.mk (blk_drew HB.out)
        have KO := Aside0.mk (blk_drew HO.out)
        have KR := Aside0.mk (blk_drew HR.out)
        have KD := Aside0.mk (below_drew HD.out)
        refine wp_region_still_tail 9 (by kernel_rfl) (by kernel_rfl) ?_
        change wpStill Try.prog _ v0.drew (fun a' => wpList Try.prog _ _ _ a' v0.drew) _ _
        generalize v0.drew = u0 at KA KB KO KR KD ca cb cc cf ⊢
        clear HA HB HO HR HD
        simp only [List.take_succ_cons, List.take_zero, List.drop_succ_cons, List.drop_zero]
        repeat still_step
        refine wpStill_nil ?_
        go_wp2
        have HA := Aside0.mk (blk_far KA.out (p := ⟨t2.heap.size, 0, none⟩) (by show _ ≠ t2.heap.size; omega) (.int .i64 (wrap64 (x0 + y0))))
        have HB := Aside0.mk (blk_far KB.out (p := ⟨t2.heap.size, 0, none⟩) (by show _ ≠ t2.heap.size; omega) (.int .i64 (wrap64 (x0 + y0))))
        have HR := Aside0.mk (blk_far KR.out (p := ⟨t2.heap.size, 0, none⟩) (by show _ ≠ t2.heap.size; omega) (.int .i64 (wrap64 (x0 + y0))))
        have HO := Aside0.mk (blk_put (cs' := #[.int .i64 (wrap64 (x0 + y0)), .int .i64 0, .int .i64 0, .int .i64 0]) KO.out 0 (.int .i64 (wrap64 (x0 + y0))) rfl)
        have HD := Aside0.mk (Below.setCell KD.out (p := ⟨t2.heap.size, 0, none⟩) (by show w.heap.size ≤ t2.heap.size; omega) (.int .i64 (wrap64 (x0 + y0))))
        generalize u0.setCell ⟨t2.heap.size, 0, none⟩ (.int .i64 (wrap64 (x0 + y0))) = v1 at HA HB HO HR HD ⊢
        clear KA KB KO KR KD ca cb cc cf
        rw [rounds_succ]
        go_wp2
        have ca : (v1.drew).cell? ⟨w.heap.size, 1, none⟩ = some (.int .i64 x1) := (blk_cell (blk_drew HA.out) 1).trans rfl
        have cb : (v1.drew).cell? ⟨w.heap.size + 1, 1, none⟩ = some (.int .i64 y1) := (blk_cell (blk_drew HB.out) 1).trans rfl
        have cc : (v1.drew).cell? ⟨t2.heap.size, 1, none⟩ = some (.int .i64 0) := (blk_cell (blk_drew HO.out) 1).trans rfl
        have cf : (v1.drew).frozen? ⟨t2.heap.size, 1, none⟩ = false := blk_frozen (blk_drew HO.out) 1
        have KA := Aside0.mk (blk_drew HA.out)
        have KB := Aside0.mk (blk_drew HB.out)
        have KO := Aside0.mk (blk_drew HO.out)
        have KR := Aside0.mk (blk_drew HR.out)
        have KD := Aside0.mk (below_drew HD.out)
        refine wp_region_still_tail 9 (by kernel_rfl) (by kernel_rfl) ?_
        change wpStill Try.prog _ v1.drew (fun a' => wpList Try.prog _ _ _ a' v1.drew) _ _
        generalize v1.drew = u1 at KA KB KO KR KD ca cb cc cf ⊢
        clear HA HB HO HR HD
        simp only [List.take_succ_cons, List.take_zero, List.drop_succ_cons, List.drop_zero]
        repeat still_step
        refine wpStill_nil ?_
        go_wp2
        have HA := Aside0.mk (blk_far KA.out (p := ⟨t2.heap.size, 1, none⟩) (by show _ ≠ t2.heap.size; omega) (.int .i64 (wrap64 (x1 + y1))))
        have HB := Aside0.mk (blk_far KB.out (p := ⟨t2.heap.size, 1, none⟩) (by show _ ≠ t2.heap.size; omega) (.int .i64 (wrap64 (x1 + y1))))
        have HR := Aside0.mk (blk_far KR.out (p := ⟨t2.heap.size, 1, none⟩) (by show _ ≠ t2.heap.size; omega) (.int .i64 (wrap64 (x1 + y1))))
        have HO := Aside0.mk (blk_put (cs' := #[.int .i64 (wrap64 (x0 + y0)), .int .i64 (wrap64 (x1 + y1)), .int .i64 0, .int .i64 0]) KO.out 1 (.int .i64 (wrap64 (x1 + y1))) rfl)
        have HD := Aside0.mk (Below.setCell KD.out (p := ⟨t2.heap.size, 1, none⟩) (by show w.heap.size ≤ t2.heap.size; omega) (.int .i64 (wrap64 (x1 + y1))))
        generalize u1.setCell ⟨t2.heap.size, 1, none⟩ (.int .i64 (wrap64 (x1 + y1))) = v2 at HA HB HO HR HD ⊢
        clear KA KB KO KR KD ca cb cc cf
        rw [rounds_succ]
        go_wp2
        have ca : (v2.drew).cell? ⟨w.heap.size, 2, none⟩ = some (.int .i64 x2) := (blk_cell (blk_drew HA.out) 2).trans rfl
        have cb : (v2.drew).cell? ⟨w.heap.size + 1, 2, none⟩ = some (.int .i64 y2) := (blk_cell (blk_drew HB.out) 2).trans rfl
        have cc : (v2.drew).cell? ⟨t2.heap.size, 2, none⟩ = some (.int .i64 0) := (blk_cell (blk_drew HO.out) 2).trans rfl
        have cf : (v2.drew).frozen? ⟨t2.heap.size, 2, none⟩ = false := blk_frozen (blk_drew HO.out) 2
        have KA := Aside0.mk (blk_drew HA.out)
        have KB := Aside0.mk (blk_drew HB.out)
        have KO := Aside0.mk (blk_drew HO.out)
        have KR := Aside0.mk (blk_drew HR.out)
        have KD := Aside0.mk (below_drew HD.out)
        refine wp_region_still_tail 9 (by kernel_rfl) (by kernel_rfl) ?_
        change wpStill Try.prog _ v2.drew (fun a' => wpList Try.prog _ _ _ a' v2.drew) _ _
        generalize v2.drew = u2 at KA KB KO KR KD ca cb cc cf ⊢
        clear HA HB HO HR HD
        simp only [List.take_succ_cons, List.take_zero, List.drop_succ_cons, List.drop_zero]
        repeat still_step
        refine wpStill_nil ?_
        go_wp2
        have HA := Aside0.mk (blk_far KA.out (p := ⟨t2.heap.size, 2, none⟩) (by show _ ≠ t2.heap.size; omega) (.int .i64 (wrap64 (x2 + y2))))
        have HB := Aside0.mk (blk_far KB.out (p := ⟨t2.heap.size, 2, none⟩) (by show _ ≠ t2.heap.size; omega) (.int .i64 (wrap64 (x2 + y2))))
        have HR := Aside0.mk (blk_far KR.out (p := ⟨t2.heap.size, 2, none⟩) (by show _ ≠ t2.heap.size; omega) (.int .i64 (wrap64 (x2 + y2))))
        have HO := Aside0.mk (blk_put (cs' := #[.int .i64 (wrap64 (x0 + y0)), .int .i64 (wrap64 (x1 + y1)), .int .i64 (wrap64 (x2 + y2)), .int .i64 0]) KO.out 2 (.int .i64 (wrap64 (x2 + y2))) rfl)
        have HD := Aside0.mk (Below.setCell KD.out (p := ⟨t2.heap.size, 2, none⟩) (by show w.heap.size ≤ t2.heap.size; omega) (.int .i64 (wrap64 (x2 + y2))))
        generalize u2.setCell ⟨t2.heap.size, 2, none⟩ (.int .i64 (wrap64 (x2 + y2))) = v3 at HA HB HO HR HD ⊢
        clear KA KB KO KR KD ca cb cc cf
        rw [rounds_succ]
        go_wp2
        have ca : (v3.drew).cell? ⟨w.heap.size, 3, none⟩ = some (.int .i64 x3) := (blk_cell (blk_drew HA.out) 3).trans rfl
        have cb : (v3.drew).cell? ⟨w.heap.size + 1, 3, none⟩ = some (.int .i64 y3) := (blk_cell (blk_drew HB.out) 3).trans rfl
        have cc : (v3.drew).cell? ⟨t2.heap.size, 3, none⟩ = some (.int .i64 0) := (blk_cell (blk_drew HO.out) 3).trans rfl
        have cf : (v3.drew).frozen? ⟨t2.heap.size, 3, none⟩ = false := blk_frozen (blk_drew HO.out) 3
        have KA := Aside0.mk (blk_drew HA.out)
        have KB := Aside0.mk (blk_drew HB.out)
        have KO := Aside0.mk (blk_drew HO.out)
        have KR := Aside0.mk (blk_drew HR.out)
        have KD := Aside0.mk (below_drew HD.out)
        refine wp_region_still_tail 9 (by kernel_rfl) (by kernel_rfl) ?_
        change wpStill Try.prog _ v3.drew (fun a' => wpList Try.prog _ _ _ a' v3.drew) _ _
        generalize v3.drew = u3 at KA KB KO KR KD ca cb cc cf ⊢
        clear HA HB HO HR HD
        simp only [List.take_succ_cons, List.take_zero, List.drop_succ_cons, List.drop_zero]
        repeat still_step
        refine wpStill_nil ?_
        go_wp2
        have HA := Aside0.mk (blk_far KA.out (p := ⟨t2.heap.size, 3, none⟩) (by show _ ≠ t2.heap.size; omega) (.int .i64 (wrap64 (x3 + y3))))
        have HB := Aside0.mk (blk_far KB.out (p := ⟨t2.heap.size, 3, none⟩) (by show _ ≠ t2.heap.size; omega) (.int .i64 (wrap64 (x3 + y3))))
        have HR := Aside0.mk (blk_far KR.out (p := ⟨t2.heap.size, 3, none⟩) (by show _ ≠ t2.heap.size; omega) (.int .i64 (wrap64 (x3 + y3))))
        have HO := Aside0.mk (blk_put (cs' := #[.int .i64 (wrap64 (x0 + y0)), .int .i64 (wrap64 (x1 + y1)), .int .i64 (wrap64 (x2 + y2)), .int .i64 (wrap64 (x3 + y3))]) KO.out 3 (.int .i64 (wrap64 (x3 + y3))) rfl)
        have HD := Aside0.mk (Below.setCell KD.out (p := ⟨t2.heap.size, 3, none⟩) (by show w.heap.size ≤ t2.heap.size; omega) (.int .i64 (wrap64 (x3 + y3))))
        generalize u3.setCell ⟨t2.heap.size, 3, none⟩ (.int .i64 (wrap64 (x3 + y3))) = v4 at HA HB HO HR HD ⊢
        clear KA KB KO KR KD ca cb cc cf
        rw [rounds_succ]
        obtain ⟨o0, o1, o2, o3⟩ := cells4 HO.out
        go_wp2_with fail
        refine (HS.out v4).mono ?_
        rw [hs]
        rintro e v6 ⟨rfl, hb⟩
        have HR6 := Aside0.mk (blk_below HR.out hb)
        have HO6 := Aside0.mk (blk_below HO.out hb)
        have HD6 := Aside0.mk (HD.out.trans (hb.mono HD.out.size))
        clear hb HR HO HD
        clear o0 o1 o2 o3
        obtain ⟨o0, o1, o2, o3⟩ := cells4 HO6.out
        have f0 : v6.frozen? ⟨w.heap.size + 1 + 1, 0, none⟩ = false := blk_frozen HR6.out 0
        have f1 : v6.frozen? ⟨w.heap.size + 1 + 1, 1, none⟩ = false := blk_frozen HR6.out 1
        have f2 : v6.frozen? ⟨w.heap.size + 1 + 1, 2, none⟩ = false := blk_frozen HR6.out 2
        have f3 : v6.frozen? ⟨w.heap.size + 1 + 1, 3, none⟩ = false := blk_frozen HR6.out 3
        obtain ⟨r0, r1, r2, r3⟩ := cells4 HR6.out
        go_wp2
        have HR5 := Aside0.mk (blk_put (cs' := #[.int .i64 (wrap64 (x0 + y0)), .int .i64 (wrap64 (x1 + y1)), .int .i64 (wrap64 (x2 + y2)), .int .i64 (wrap64 (x3 + y3))]) (blk_put (cs' := #[.int .i64 (wrap64 (x0 + y0)), .int .i64 (wrap64 (x1 + y1)), .int .i64 (wrap64 (x2 + y2)), .int .i64 0]) (blk_put (cs' := #[.int .i64 (wrap64 (x0 + y0)), .int .i64 (wrap64 (x1 + y1)), .int .i64 0, .int .i64 0]) (blk_put (cs' := #[.int .i64 (wrap64 (x0 + y0)), .int .i64 0, .int .i64 0, .int .i64 0]) HR6.out 0 (.int .i64 (wrap64 (x0 + y0))) rfl) 1 (.int .i64 (wrap64 (x1 + y1))) rfl) 2 (.int .i64 (wrap64 (x2 + y2))) rfl) 3 (.int .i64 (wrap64 (x3 + y3))) rfl)
        have HD5 := Aside0.mk (Below.setCell (Below.setCell (Below.setCell (Below.setCell HD6.out (p := ⟨w.heap.size + 1 + 1, 0, none⟩) (by show w.heap.size ≤ w.heap.size + 1 + 1; omega) (.int .i64 (wrap64 (x0 + y0)))) (p := ⟨w.heap.size + 1 + 1, 1, none⟩) (by show w.heap.size ≤ w.heap.size + 1 + 1; omega) (.int .i64 (wrap64 (x1 + y1)))) (p := ⟨w.heap.size + 1 + 1, 2, none⟩) (by show w.heap.size ≤ w.heap.size + 1 + 1; omega) (.int .i64 (wrap64 (x2 + y2)))) (p := ⟨w.heap.size + 1 + 1, 3, none⟩) (by show w.heap.size ≤ w.heap.size + 1 + 1; omega) (.int .i64 (wrap64 (x3 + y3))))
        generalize (((v6.setCell ⟨w.heap.size + 1 + 1, 0, none⟩ (.int .i64 (wrap64 (x0 + y0)))).setCell ⟨w.heap.size + 1 + 1, 1, none⟩ (.int .i64 (wrap64 (x1 + y1)))).setCell ⟨w.heap.size + 1 + 1, 2, none⟩ (.int .i64 (wrap64 (x2 + y2)))).setCell ⟨w.heap.size + 1 + 1, 3, none⟩ (.int .i64 (wrap64 (x3 + y3))) = v9 at HR5 HD5 ⊢
        obtain ⟨d0, d1, d2, d3⟩ := cells4 HR5.out
        exact bodyPost_ret (v := .tuple #[.agg #[.int .i64 (wrap64 (x0 + y0)), .int .i64 (wrap64 (x1 + y1)), .int .i64 (wrap64 (x2 + y2)), .int .i64 (wrap64 (x3 + y3))], .int .i64 0]) (by simp [results, Try.results31, go_sem, d0, d1, d2, d3]) rfl ⟨rfl, HD5.out⟩
def syzygyref08_Mul.f (x0 x1 x2 x3 y0 y1 y2 y3 : Int) : Option (Int × Int × Int × Int × Int) := some (syzygyref08_Mul.v x0 x1 x2 x3 y0 y1 y2 y3)
theorem syzygyref08_Mul.calls (x0 x1 x2 x3 y0 y1 y2 y3 : Int) (r1 r2 r3 r4 r5 : Int) (w : World) (h : syzygyref08_Mul.f x0 x1 x2 x3 y0 y1 y2 y3 = some (r1, r2, r3, r4, r5)) :
    Calls Try.prog 31 #[.agg #[.int .i64 x0, .int .i64 x1, .int .i64 x2, .int .i64 x3], .agg #[.int .i64 y0, .int .i64 y1, .int .i64 y2, .int .i64 y3]] w fun e w' => e = .returned (.tuple #[.agg #[.int .i64 r1, .int .i64 r2, .int .i64 r3, .int .i64 r4], .int .i64 r5]) ∧ Below w.heap.size w w' := by
  have h := Option.some.inj h
  have := syzygyref08_Mul.calls_ x0 x1 x2 x3 y0 y1 y2 y3 w
  rw [h] at this
  exact this

end Go.Proofs.Ytmknpclfanblfaa.POMonoTells
