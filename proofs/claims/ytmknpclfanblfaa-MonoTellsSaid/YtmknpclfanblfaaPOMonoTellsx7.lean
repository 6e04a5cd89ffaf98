-- Written by a program of this session (pr.py, over the kit's print.py).
import Derived.Test.YtmknpclfanblfaaPOMonoTellsx0
import Derived.Test.YtmknpclfanblfaaPOMonoTellsx5
namespace Go.Proofs.Ytmknpclfanblfaa.POMonoTells
open Go.RowKit Go.Proofs.YtmknpclfanblfaaN Go.Proofs.YtmknpclfanblfaaW.PrintWords Go.Proofs.YtmknpclfanblfaaW.PrintLast Go.Proofs.YtmknpclfanblfaaW.PrintMore
attribute [local go_sem] max2_int min2_int max_two min_two max_three min_three max_four min_four   -- for this text's walks alone
set_option linter.unusedVariables false
set_option linter.unusedSimpArgs false

/-! ### syzygyref08_Div: function 32 -/
def syzygyref08_Div.v (x0 x1 x2 x3 y0 y1 y2 y3 : Int) : Int × Int × Int × Int × Bool := cond (syzygyref08_May.v x0 x1 x2 x3) (cond (syzygyref08_May.v y0 y1 y2 y3) (cond (decide (x0 < y0)) (0, 0, 0, 0, false) (cond (decide (x1 < y1)) (0, 0, 0, 0, false) (cond (decide (x2 < y2)) (0, 0, 0, 0, false) (cond (decide (x3 < y3)) (0, 0, 0, 0, false) (((wrap64 (x0 - y0)), (wrap64 (x1 - y1)), (wrap64 (x2 - y2)), (wrap64 (x3 - y3)), true)))))) (0, 0, 0, 0, false)) (0, 0, 0, 0, false)
set_option maxHeartbeats 4000000 in
theorem syzygyref08_Div.calls_ (x0 x1 x2 x3 y0 y1 y2 y3 : Int) (w : World) : Calls Try.prog 32 #[.agg #[.int .i64 x0, .int .i64 x1, .int .i64 x2, .int .i64 x3], .agg #[.int .i64 y0, .int .i64 y1, .int .i64 y2, .int .i64 y3]] w fun e w' => e = .returned (match syzygyref08_Div.v x0 x1 x2 x3 y0 y1 y2 y3 with | (r0, r1, r2, r3, e) => .tuple #[.agg #[.int .i64 r0, .int .i64 r1, .int .i64 r2, .int .i64 r3], .bool e]) ∧ Below w.heap.size w w' := by
  unfold syzygyref08_Div.v
  have HM := Aside0.mk (syzygyref08_May.calls_ x0 x1 x2 x3)
  have HN := Aside0.mk (syzygyref08_May.calls_ y0 y1 y2 y3)
  have hA := blk_alloc (blk_alloc (blk_alloc (blk_new w (.cells #[.int .i64 x0, .int .i64 x1, .int .i64 x2, .int .i64 x3] 24)) (.cells #[.int .i64 y0, .int .i64 y1, .int .i64 y2, .int .i64 y3] 24)) (.cells #[.int .i64 0, .int .i64 0, .int .i64 0, .int .i64 0] 24)) (.cells #[.int .i64 0, .int .i64 0, .int .i64 0, .int .i64 0] 24)
  have hB := blk_alloc (blk_alloc (blk_new (w.alloc (.cells #[.int .i64 x0, .int .i64 x1, .int .i64 x2, .int .i64 x3] 24)) (.cells #[.int .i64 y0, .int .i64 y1, .int .i64 y2, .int .i64 y3] 24)) (.cells #[.int .i64 0, .int .i64 0, .int .i64 0, .int .i64 0] 24)) (.cells #[.int .i64 0, .int .i64 0, .int .i64 0, .int .i64 0] 24)
  have hR := blk_alloc (blk_new ((w.alloc (.cells #[.int .i64 x0, .int .i64 x1, .int .i64 x2, .int .i64 x3] 24)).alloc (.cells #[.int .i64 y0, .int .i64 y1, .int .i64 y2, .int .i64 y3] 24)) (.cells #[.int .i64 0, .int .i64 0, .int .i64 0, .int .i64 0] 24)) (.cells #[.int .i64 0, .int .i64 0, .int .i64 0, .int .i64 0] 24)
  have hO := blk_new (((w.alloc (.cells #[.int .i64 x0, .int .i64 x1, .int .i64 x2, .int .i64 x3] 24)).alloc (.cells #[.int .i64 y0, .int .i64 y1, .int .i64 y2, .int .i64 y3] 24)).alloc (.cells #[.int .i64 0, .int .i64 0, .int .i64 0, .int .i64 0] 24)) (.cells #[.int .i64 0, .int .i64 0, .int .i64 0, .int .i64 0] 24)
  have hD := below_alloc (below_alloc (below_alloc (below_alloc (Below.refl _ w) (.cells #[.int .i64 x0, .int .i64 x1, .int .i64 x2, .int .i64 x3] 24)) (.cells #[.int .i64 y0, .int .i64 y1, .int .i64 y2, .int .i64 y3] 24)) (.cells #[.int .i64 0, .int .i64 0, .int .i64 0, .int .i64 0] 24)) (.cells #[.int .i64 0, .int .i64 0, .int .i64 0, .int .i64 0] 24)
  simp only [World.size_alloc] at hA hB hR hO
  have HA0 := Aside0.mk hA
  have HB0 := Aside0.mk hB
  have HR0 := Aside0.mk hR
  have HO0 := Aside0.mk hO
  have HD0 := Aside0.mk hD
  clear hA hB hR hO hD
  cases hv : syzygyref08_May.v x0 x1 x2 x3 with
  | false =>
    simp only [cond_false]
    go_enter Try.func32, Try.ntmps32
    go_wp2_with fail
    generalize (((w.alloc (.cells #[.int .i64 x0, .int .i64 x1, .int .i64 x2, .int .i64 x3] 24)).alloc (.cells #[.int .i64 y0, .int .i64 y1, .int .i64 y2, .int .i64 y3] 24)).alloc (.cells #[.int .i64 0, .int .i64 0, .int .i64 0, .int .i64 0] 24)).alloc (.cells #[.int .i64 0, .int .i64 0, .int .i64 0, .int .i64 0] 24) = t0 at HA0 HB0 HR0 HO0 HD0 ⊢
    obtain ⟨z0, z1, z2, z3⟩ := cells4 HO0.out
    have y_0 : t0.frozen? ⟨w.heap.size + 1 + 1 + 1, 0, none⟩ = false := blk_frozen HO0.out 0
    have y_1 : t0.frozen? ⟨w.heap.size + 1 + 1 + 1, 1, none⟩ = false := blk_frozen HO0.out 1
    have y_2 : t0.frozen? ⟨w.heap.size + 1 + 1 + 1, 2, none⟩ = false := blk_frozen HO0.out 2
    have y_3 : t0.frozen? ⟨w.heap.size + 1 + 1 + 1, 3, none⟩ = false := blk_frozen HO0.out 3
    obtain ⟨a0, a1, a2, a3⟩ := cells4 HA0.out
    go_wp2_with fail
    refine (HM.out t0).mono ?_
    rw [hv]
    rintro e t1 ⟨rfl, hb⟩
    have HA1 := Aside0.mk (blk_below HA0.out hb)
    have HB1 := Aside0.mk (blk_below HB0.out hb)
    have HR1 := Aside0.mk (blk_below HR0.out hb)
    have HO1 := Aside0.mk (blk_below HO0.out hb)
    have HD1 := Aside0.mk (HD0.out.trans (hb.mono HD0.out.size))
    clear hb HA0 HB0 HR0 HO0 HD0
    clear z0 z1 z2 z3 y_0 y_1 y_2 y_3 a0 a1 a2 a3
    obtain ⟨o0, o1, o2, o3⟩ := cells4 HO1.out
    have f0 : t1.frozen? ⟨w.heap.size + 1 + 1, 0, none⟩ = false := blk_frozen HR1.out 0
    have f1 : t1.frozen? ⟨w.heap.size + 1 + 1, 1, none⟩ = false := blk_frozen HR1.out 1
    have f2 : t1.frozen? ⟨w.heap.size + 1 + 1, 2, none⟩ = false := blk_frozen HR1.out 2
    have f3 : t1.frozen? ⟨w.heap.size + 1 + 1, 3, none⟩ = false := blk_frozen HR1.out 3
    obtain ⟨r0, r1, r2, r3⟩ := cells4 HR1.out
    go_wp2
    have HR5 := Aside0.mk (blk_put (cs' := #[.int .i64 0, .int .i64 0, .int .i64 0, .int .i64 0]) (blk_put (cs' := #[.int .i64 0, .int .i64 0, .int .i64 0, .int .i64 0]) (blk_put (cs' := #[.int .i64 0, .int .i64 0, .int .i64 0, .int .i64 0]) (blk_put (cs' := #[.int .i64 0, .int .i64 0, .int .i64 0, .int .i64 0]) HR1.out 0 (.int .i64 0) rfl) 1 (.int .i64 0) rfl) 2 (.int .i64 0) rfl) 3 (.int .i64 0) rfl)
    have HD5 := Aside0.mk (Below.setCell (Below.setCell (Below.setCell (Below.setCell HD1.out (p := ⟨w.heap.size + 1 + 1, 0, none⟩) (by show w.heap.size ≤ w.heap.size + 1 + 1; omega) (.int .i64 0)) (p := ⟨w.heap.size + 1 + 1, 1, none⟩) (by show w.heap.size ≤ w.heap.size + 1 + 1; omega) (.int .i64 0)) (p := ⟨w.heap.size + 1 + 1, 2, none⟩) (by show w.heap.size ≤ w.heap.size + 1 + 1; omega) (.int .i64 0)) (p := ⟨w.heap.size + 1 + 1, 3, none⟩) (by show w.heap.size ≤ w.heap.size + 1 + 1; omega) (.int .i64 0))
    generalize (((t1.setCell ⟨w.heap.size + 1 + 1, 0, none⟩ (.int .i64 0)).setCell ⟨w.heap.size + 1 + 1, 1, none⟩ (.int .i64 0)).setCell ⟨w.heap.size + 1 + 1, 2, none⟩ (.int .i64 0)).setCell ⟨w.heap.size + 1 + 1, 3, none⟩ (.int .i64 0) = v9 at HR5 HD5 ⊢
    obtain ⟨d0, d1, d2, d3⟩ := cells4 HR5.out
    exact bodyPost_ret (v := .tuple #[.agg #[.int .i64 0, .int .i64 0, .int .i64 0, .int .i64 0], .bool false]) (by simp [results, Try.results32, go_sem, d0, d1, d2, d3]) rfl ⟨rfl, HD5.out⟩
  | true =>
    cases hu : syzygyref08_May.v y0 y1 y2 y3 with
    | false =>
      simp only [cond_true, cond_false]
      go_enter Try.func32, Try.ntmps32
      go_wp2_with fail
      generalize (((w.alloc (.cells #[.int .i64 x0, .int .i64 x1, .int .i64 x2, .int .i64 x3] 24)).alloc (.cells #[.int .i64 y0, .int .i64 y1, .int .i64 y2, .int .i64 y3] 24)).alloc (.cells #[.int .i64 0, .int .i64 0, .int .i64 0, .int .i64 0] 24)).alloc (.cells #[.int .i64 0, .int .i64 0, .int .i64 0, .int .i64 0] 24) = t0 at HA0 HB0 HR0 HO0 HD0 ⊢
      obtain ⟨z0, z1, z2, z3⟩ := cells4 HO0.out
      have y_0 : t0.frozen? ⟨w.heap.size + 1 + 1 + 1, 0, none⟩ = false := blk_frozen HO0.out 0
      have y_1 : t0.frozen? ⟨w.heap.size + 1 + 1 + 1, 1, none⟩ = false := blk_frozen HO0.out 1
      have y_2 : t0.frozen? ⟨w.heap.size + 1 + 1 + 1, 2, none⟩ = false := blk_frozen HO0.out 2
      have y_3 : t0.frozen? ⟨w.heap.size + 1 + 1 + 1, 3, none⟩ = false := blk_frozen HO0.out 3
      obtain ⟨a0, a1, a2, a3⟩ := cells4 HA0.out
      go_wp2_with fail
      refine (HM.out t0).mono ?_
      rw [hv]
      rintro e t1 ⟨rfl, hb⟩
      have HA1 := Aside0.mk (blk_below HA0.out hb)
      have HB1 := Aside0.mk (blk_below HB0.out hb)
      have HR1 := Aside0.mk (blk_below HR0.out hb)
      have HO1 := Aside0.mk (blk_below HO0.out hb)
      have HD1 := Aside0.mk (HD0.out.trans (hb.mono HD0.out.size))
      clear hb HA0 HB0 HR0 HO0 HD0
      clear z0 z1 z2 z3 y_0 y_1 y_2 y_3 a0 a1 a2 a3
      obtain ⟨b0, b1, b2, b3⟩ := cells4 HB1.out
      go_wp2_with fail
      refine (HN.out t1).mono ?_
      rw [hu]
      rintro e t2 ⟨rfl, hb⟩
      have HA2 := Aside0.mk (blk_below HA1.out hb)
      have HB2 := Aside0.mk (blk_below HB1.out hb)
      have HR2 := Aside0.mk (blk_below HR1.out hb)
      have HO2 := Aside0.mk (blk_below HO1.out hb)
      have HD2 := Aside0.mk (HD1.out.trans (hb.mono HD1.out.size))
      clear hb HA1 HB1 HR1 HO1 HD1
      clear b0 b1 b2 b3
      obtain ⟨o0, o1, o2, o3⟩ := cells4 HO2.out
      have f0 : t2.frozen? ⟨w.heap.size + 1 + 1, 0, none⟩ = false := blk_frozen HR2.out 0
      have f1 : t2.frozen? ⟨w.heap.size + 1 + 1, 1, none⟩ = false := blk_frozen HR2.out 1
      have f2 : t2.frozen? ⟨w.heap.size + 1 + 1, 2, none⟩ = false := blk_frozen HR2.out 2
      have f3 : t2.frozen? ⟨w.heap.size + 1 + 1, 3, none⟩ = false := blk_frozen HR2.out 3
      obtain ⟨r0, r1, r2, r3⟩ := cells4 HR2.out
      go_wp2
      have HR5 := Aside0.mk (blk_put (cs' := #[.int .i64 0, .int .i64 0, .int .i64 0, .int .i64 0]) (blk_put (cs' := #[.int .i64 0, .int .i64 0, .int .i64 0, .int .i64 0]) (blk_put (cs' := #[.int .i64 0, .int .i64 0, .int .i64 0, .int .i64 0]) (blk_put (cs' := #[.int .i64 0, .int .i64 0, .int .i64 0, .int .i64 0]) HR2.out 0 (.int .i64 0) rfl) 1 (.int .i64 0) rfl) 2 (.int .i64 0) rfl) 3 (.int .i64 0) rfl)
      have HD5 := Aside0.mk (Below.setCell (Below.setCell (Below.setCell (Below.setCell HD2.out (p := ⟨w.heap.size + 1 + 1, 0, none⟩) (by show w.heap.size ≤ w.heap.size + 1 + 1; omega) (.int .i64 0)) (p := ⟨w.heap.size + 1 + 1, 1, none⟩) (by show w.heap.size ≤ w.heap.size + 1 + 1; omega) (.int .i64 0)) (p := ⟨w.heap.size + 1 + 1, 2, none⟩) (by show w.heap.size ≤ w.heap.size + 1 + 1; omega) (.int .i64 0)) (p := ⟨w.heap.size + 1 + 1, 3, none⟩) (by show w.heap.size ≤ w.heap.size + 1 + 1; omega) (.int .i64 0))
      generalize (((t2.setCell ⟨w.heap.size + 1 + 1, 0, none⟩ (.int .i64 0)).setCell ⟨w.heap.size + 1 + 1, 1, none⟩ (.int .i64 0)).setCell ⟨w.heap.size + 1 + 1, 2, none⟩ (.int .i64 0)).setCell ⟨w.heap.size + 1 + 1, 3, none⟩ (.int .i64 0) = v9 at HR5 HD5 ⊢
      obtain ⟨d0, d1, d2, d3⟩ := cells4 HR5.out
      exact bodyPost_ret (v := .tuple #[.agg #[.int .i64 0, .int .i64 0, .int .i64 0, .int .i64 0], .bool false]) (by simp [results, Try.results32, go_sem, d0, d1, d2, d3]) rfl ⟨rfl, HD5.out⟩
    | true =>
      cases n0 : decide (x0 < y0) with
      | true =>
        simp only [cond_true, cond_false]
        go_enter Try.func32, Try.ntmps32
        go_wp2_with fail
        generalize (((w.alloc (.cells #[.int .i64 x0, .int .i64 x1, .int .i64 x2, .int .i64 x3] 24)).alloc (.cells #[.int .i64 y0, .int .i64 y1, .int .i64 y2, .int .i64 y3] 24)).alloc (.cells #[.int .i64 0, .int .i64 0, .int .i64 0, .int .i64 0] 24)).alloc (.cells #[.int .i64 0, .int .i64 0, .int .i64 0, .int .i64 0] 24) = t0 at HA0 HB0 HR0 HO0 HD0 ⊢
        obtain ⟨z0, z1, z2, z3⟩ := cells4 HO0.out
        have y_0 : t0.frozen? ⟨w.heap.size + 1 + 1 + 1, 0, none⟩ = false := blk_frozen HO0.out 0
        have y_1 : t0.frozen? ⟨w.heap.size + 1 + 1 + 1, 1, none⟩ = false := blk_frozen HO0.out 1
        have y_2 : t0.frozen? ⟨w.heap.size + 1 + 1 + 1, 2, none⟩ = false := blk_frozen HO0.out 2
        have y_3 : t0.frozen? ⟨w.heap.size + 1 + 1 + 1, 3, none⟩ = false := blk_frozen HO0.out 3
        obtain ⟨a0, a1, a2, a3⟩ := cells4 HA0.out
        go_wp2_with fail
        refine (HM.out t0).mono ?_
        rw [hv]
        rintro e t1 ⟨rfl, hb⟩
        have HA1 := Aside0.mk (blk_below HA0.out hb)
        have HB1 := Aside0.mk (blk_below HB0.out hb)
        have HR1 := Aside0.mk (blk_below HR0.out hb)
        have HO1 := Aside0.mk (blk_below HO0.out hb)
        have HD1 := Aside0.mk (HD0.out.trans (hb.mono HD0.out.size))
        clear hb HA0 HB0 HR0 HO0 HD0
        clear z0 z1 z2 z3 y_0 y_1 y_2 y_3 a0 a1 a2 a3
        obtain ⟨b0, b1, b2, b3⟩ := cells4 HB1.out
        go_wp2_with fail
        refine (HN.out t1).mono ?_
        rw [hu]
        rintro e t2 ⟨rfl, hb⟩
        have HA2 := Aside0.mk (blk_below HA1.out hb)
        have HB2 := Aside0.mk (blk_below HB1.out hb)
        have HR2 := Aside0.mk (blk_below HR1.out hb)
        have HO2 := Aside0.mk (blk_below HO1.out hb)
        have HD2 := Aside0.mk (HD1.out.trans (hb.mono HD1.out.size))
        clear hb HA1 HB1 HR1 HO1 HD1
        clear b0 b1 b2 b3
        go_wp2_with fail
        have HA := Aside0.mk HA2.out
        have HB := Aside0.mk HB2.out
        have HR := Aside0.mk HR2.out
        have HO := Aside0.mk HO2.out
        have HD := Aside0.mk HD2.out
        clear HA2 HB2 HR2 HO2 HD2
        refine wp_loop_rounds 1 ?_
        rw [rounds_succ]
        go_wp2
        have ca : (t2.drew).cell? ⟨w.heap.size, 0, none⟩ = some (.int .i64 x0) := (blk_cell (blk_drew HA.out) 0).trans rfl
        have cb : (t2.drew).cell? ⟨w.heap.size + 1, 0, none⟩ = some (.int .i64 y0) := (blk_cell (blk_drew HB.out) 0).trans rfl
        have KA := Aside0.mk (blk_drew HA.out)
        have KB := Aside0.mk (blk_drew HB.out)
        have KO := Aside0.mk (blk_drew HO.out)
        have KR := Aside0.mk (blk_drew HR.out)
        have KD := Aside0.mk (below_drew HD.out)
        refine wp_region_still_tail 6 (by kernel_rfl) (by kernel_rfl) ?_
        change wpStill Try.prog _ t2.drew (fun a' => wpList Try.prog _ _ _ a' t2.drew) _ _
        generalize t2.drew = p0 at KA KB KO KR KD ca cb ⊢
        clear HA HB HO HR HD
        simp only [List.take_succ_cons, List.take_zero, List.drop_succ_cons, List.drop_zero]
        repeat still_step
        refine wpStill_nil ?_
        have HA := Aside0.mk KA.out
        have HB := Aside0.mk KB.out
        have HO := Aside0.mk KO.out
        have HR := Aside0.mk KR.out
        have HD := Aside0.mk KD.out
        clear KA KB KO KR KD
        have f0 : p0.frozen? ⟨w.heap.size + 1 + 1, 0, none⟩ = false := blk_frozen HR.out 0
        have f1 : p0.frozen? ⟨w.heap.size + 1 + 1, 1, none⟩ = false := blk_frozen HR.out 1
        have f2 : p0.frozen? ⟨w.heap.size + 1 + 1, 2, none⟩ = false := blk_frozen HR.out 2
        have f3 : p0.frozen? ⟨w.heap.size + 1 + 1, 3, none⟩ = false := blk_frozen HR.out 3
        obtain ⟨r0, r1, r2, r3⟩ := cells4 HR.out
        go_wp2
        have HR5 := Aside0.mk (blk_put (cs' := #[.int .i64 0, .int .i64 0, .int .i64 0, .int .i64 0]) (blk_put (cs' := #[.int .i64 0, .int .i64 0, .int .i64 0, .int .i64 0]) (blk_put (cs' := #[.int .i64 0, .int .i64 0, .int .i64 0, .int .i64 0]) (blk_put (cs' := #[.int .i64 0, .int .i64 0, .int .i64 0, .int .i64 0]) HR.out 0 (.int .i64 0) rfl) 1 (.int .i64 0) rfl) 2 (.int .i64 0) rfl) 3 (.int .i64 0) rfl)
        have HD5 := Aside0.mk (Below.setCell (Below.setCell (Below.setCell (Below.setCell HD.out (p := ⟨w.heap.size + 1 + 1, 0, none⟩) (by show w.heap.size ≤ w.heap.size + 1 + 1; omega) (.int .i64 0)) (p := ⟨w.heap.size + 1 + 1, 1, none⟩) (by show w.heap.size ≤ w.heap.size + 1 + 1; omega) (.int .i64 0)) (p := ⟨w.heap.size + 1 + 1, 2, none⟩) (by show w.heap.size ≤ w.heap.size + 1 + 1; omega) (.int .i64 0)) (p := ⟨w.heap.size + 1 + 1, 3, none⟩) (by show w.heap.size ≤ w.heap.size + 1 + 1; omega) (.int .i64 0))
        generalize (((p0.setCell ⟨w.heap.size + 1 + 1, 0, none⟩ (.int .i64 0)).setCell ⟨w.heap.size + 1 + 1, 1, none⟩ (.int .i64 0)).setCell ⟨w.heap.size + 1 + 1, 2, none⟩ (.int .i64 0)).setCell ⟨w.heap.size + 1 + 1, 3, none⟩ (.int .i64 0) = v9 at HR5 HD5 ⊢
        obtain ⟨d0, d1, d2, d3⟩ := cells4 HR5.out
        exact bodyPost_ret (v := .tuple #[.agg #[.int .i64 0, .int .i64 0, .int .i64 0, .int .i64 0], .bool false]) (by simp [results, Try.results32, go_sem, d0, d1, d2, d3]) rfl ⟨rfl, HD5.out⟩
      | false =>
        cases n1 : decide (x1 < y1) with
        | true =>
          simp only [cond_true, cond_false]
          go_enter Try.func32, Try.ntmps32
          go_wp2_with fail
          generalize (((w.alloc (.cells #[.int .i64 x0, .int .i64 x1, .int .i64 x2, .int .i64 x3] 24)).alloc (.cells #[.int .i64 y0, .int .i64 y1, .int .i64 y2, .int .i64 y3] 24)).alloc (.cells #[.int .i64 0, .int .i64 0, .int .i64 0, .int .i64 0] 24)).alloc (.cells #[.int .i64 0, .int .i64 0, .int .i64 0, .int .i64 0] 24) = t0 at HA0 HB0 HR0 HO0 HD0 ⊢
          obtain ⟨z0, z1, z2, z3⟩ := cells4 HO0.out
          have y_0 : t0.frozen? ⟨w.heap.size + 1 + 1 + 1, 0, none⟩ = false := blk_frozen HO0.out 0
          have y_1 : t0.frozen? ⟨w.heap.size + 1 + 1 + 1, 1, none⟩ = false := blk_frozen HO0.out 1
          have y_2 : t0.frozen? ⟨w.heap.size + 1 + 1 + 1, 2, none⟩ = false := blk_frozen HO0.out 2
          have y_3 : t0.frozen? ⟨w.heap.size + 1 + 1 + 1, 3, none⟩ = false := blk_frozen HO0.out 3
          obtain ⟨a0, a1, a2, a3⟩ := cells4 HA0.out
          go_wp2_with fail
          refine (HM.out t0).mono ?_
          rw [hv]
          rintro e t1 ⟨rfl, hb⟩
          have HA1 := Aside0.mk (blk_below HA0.out hb)
          have HB1 := Aside0.mk (blk_below HB0.out hb)
          have HR1 := Aside0.mk (blk_below HR0.out hb)
          have HO1 := Aside0.mk (blk_below HO0.out hb)
          have HD1 := Aside0.mk (HD0.out.trans (hb.mono HD0.out.size))
          clear hb HA0 HB0 HR0 HO0 HD0
          clear z0 z1 z2 z3 y_0 y_1 y_2 y_3 a0 a1 a2 a3
          obtain ⟨b0, b1, b2, b3⟩ := cells4 HB1.out
          go_wp2_with fail
          refine (HN.out t1).mono ?_
          rw [hu]
          rintro e t2 ⟨rfl, hb⟩
          have HA2 := Aside0.mk (blk_below HA1.out hb)
          have HB2 := Aside0.mk (blk_below HB1.out hb)
          have HR2 := Aside0.mk (blk_below HR1.out hb)
          have HO2 := Aside0.mk (blk_below HO1.out hb)
          have HD2 := Aside0.mk (HD1.out.trans (hb.mono HD1.out.size))
          clear hb HA1 HB1 HR1 HO1 HD1
          clear b0 b1 b2 b3
          go_wp2_with fail
          have HA := Aside0.mk HA2.out
          have HB := Aside0.mk HB2.out
          have HR := Aside0.mk HR2.out
          have HO := Aside0.mk HO2.out
          have HD := Aside0.mk HD2.out
          clear HA2 HB2 HR2 HO2 HD2
          refine wp_loop_rounds 2 ?_
          rw [rounds_succ]
          go_wp2
          have ca : (t2.drew).cell? ⟨w.heap.size, 0, none⟩ = some (.int .i64 x0) := (blk_cell (blk_drew HA.out) 0).trans rfl
          have cb : (t2.drew).cell? ⟨w.heap.size + 1, 0, none⟩ = some (.int .i64 y0) := (blk_cell (blk_drew HB.out) 0).trans rfl
          have KA := Aside0.mk (blk_drew HA.out)
          have KB := Aside0.mk (blk_drew HB.out)
          have KO := Aside0.mk (blk_drew HO.out)
          have KR := Aside0.mk (blk_drew HR.out)
          have KD := Aside0.mk (below_drew HD.out)
          refine wp_region_still_tail 6 (by kernel_rfl) (by kernel_rfl) ?_
          change wpStill Try.prog _ t2.drew (fun a' => wpList Try.prog _ _ _ a' t2.drew) _ _
          generalize t2.drew = p0 at KA KB KO KR KD ca cb ⊢
          clear HA HB HO HR HD
          simp only [List.take_succ_cons, List.take_zero, List.drop_succ_cons, List.drop_zero]
          repeat still_step
          refine wpStill_nil ?_
          have HA := Aside0.mk KA.out
          have HB := Aside0.mk KB.out
          have HO := Aside0.mk KO.out
          have HR := Aside0.mk KR.out
          have HD := Aside0.mk KD.out
          clear KA KB KO KR KD
          go_wp2_with fail
          clear ca cb
          have ca : (p0.drew).cell? ⟨w.heap.size, 0, none⟩ = some (.int .i64 x0) := (blk_cell (blk_drew HA.out) 0).trans rfl
          have cb : (p0.drew).cell? ⟨w.heap.size + 1, 0, none⟩ = some (.int .i64 y0) := (blk_cell (blk_drew HB.out) 0).trans rfl
          have cc : (p0.drew).cell? ⟨w.heap.size + 1 + 1 + 1, 0, none⟩ = some (.int .i64 0) := (blk_cell (blk_drew HO.out) 0).trans rfl
          have cf : (p0.drew).frozen? ⟨w.heap.size + 1 + 1 + 1, 0, none⟩ = false := blk_frozen (blk_drew HO.out) 0
          have KA := Aside0.mk (blk_drew HA.out)
          have KB := Aside0.mk (blk_drew HB.out)
          have KO := Aside0.mk (blk_drew HO.out)
          have KR := Aside0.mk (blk_drew HR.out)
          have KD := Aside0.mk (below_drew HD.out)
          refine wp_region_still_tail 9 (by kernel_rfl) (by kernel_rfl) ?_
          change wpStill Try.prog _ p0.drew (fun a' => wpList Try.prog _ _ _ a' p0.drew) _ _
          generalize p0.drew = q0 at KA KB KO KR KD ca cb cc cf ⊢
          clear HA HB HO HR HD
          simp only [List.take_succ_cons, List.take_zero, List.drop_succ_cons, List.drop_zero]
          repeat still_step
          refine wpStill_nil ?_
          go_wp2
          have HA := Aside0.mk (blk_far KA.out (p := ⟨w.heap.size + 1 + 1 + 1, 0, none⟩) (by show _ ≠ w.heap.size + 1 + 1 + 1; omega) (.int .i64 (wrap64 (x0 - y0))))
          have HB := Aside0.mk (blk_far KB.out (p := ⟨w.heap.size + 1 + 1 + 1, 0, none⟩) (by show _ ≠ w.heap.size + 1 + 1 + 1; omega) (.int .i64 (wrap64 (x0 - y0))))
          have HR := Aside0.mk (blk_far KR.out (p := ⟨w.heap.size + 1 + 1 + 1, 0, none⟩) (by show _ ≠ w.heap.size + 1 + 1 + 1; omega) (.int .i64 (wrap64 (x0 - y0))))
          have HO := Aside0.mk (blk_put (cs' := #[.int .i64 (wrap64 (x0 - y0)), .int .i64 0, .int .i64 0, .int .i64 0]) KO.out 0 (.int .i64 (wrap64 (x0 - y0))) rfl)
          have HD := Aside0.mk (Below.setCell KD.out (p := ⟨w.heap.size + 1 + 1 + 1, 0, none⟩) (by show w.heap.size ≤ w.heap.size + 1 + 1 + 1; omega) (.int .i64 (wrap64 (x0 - y0))))
          generalize q0.setCell ⟨w.heap.size + 1 + 1 + 1, 0, none⟩ (.int .i64 (wrap64 (x0 - y0))) = v1 at HA HB HO HR HD ⊢
          clear KA KB KO KR KD ca cb cc cf
          rw [rounds_succ]
          go_wp2
          have ca : (v1.drew).cell? ⟨w.heap.size, 1, none⟩ = some (.int .i64 x1) := (blk_cell (blk_drew HA.out) 1).trans rfl
          have cb : (v1.drew).cell? ⟨w.heap.size + 1, 1, none⟩ = some (.int .i64 y1) := (blk_cell (blk_drew HB.out) 1).trans rfl
          have KA := Aside0.mk (blk_drew HA.out)
          have KB := Aside0.mk (blk_drew HB.out)
          have KO := Aside0.mk (blk_drew HO.out)
          have KR := Aside0.mk (blk_drew HR.out)
          have KD := Aside0.mk (below_drew HD.out)
          refine wp_region_still_tail 6 (by kernel_rfl) (by kernel_rfl) ?_
          change wpStill Try.prog _ v1.drew (fun a' => wpList Try.prog _ _ _ a' v1.drew) _ _
          generalize v1.drew = p1 at KA KB KO KR KD ca cb ⊢
          clear HA HB HO HR HD
          simp only [List.take_succ_cons, List.take_zero, List.drop_succ_cons, List.drop_zero]
          repeat still_step
          refine wpStill_nil ?_
          have HA := Aside0.mk KA.out
          have HB := Aside0.mk KB.out
          have HO := Aside0.mk KO.out
          have HR := Aside0.mk KR.out
          have HD := Aside0.mk KD.out
          clear KA KB KO KR KD
          have f0 : p1.frozen? ⟨w.heap.size + 1 + 1, 0, none⟩ = false := blk_frozen HR.out 0
          have f1 : p1.frozen? ⟨w.heap.size + 1 + 1, 1, none⟩ = false := blk_frozen HR.out 1
          have f2 : p1.frozen? ⟨w.heap.size + 1 + 1, 2, none⟩ = false := blk_frozen HR.out 2
          have f3 : p1.frozen? ⟨w.heap.size + 1 + 1, 3, none⟩ = false := blk_frozen HR.out 3
          obtain ⟨r0, r1, r2, r3⟩ := cells4 HR.out
          go_wp2
          have HR5 := Aside0.mk (blk_put (cs' := #[.int .i64 0, .int .i64 0, .int .i64 0, .int .i64 0]) (blk_put (cs' := #[.int .i64 0, .int .i64 0, .int .i64 0, .int .i64 0]) (blk_put (cs' := #[.int .i64 0, .int .i64 0, .int .i64 0, .int .i64 0]) (blk_put (cs' := #[.int .i64 0, .int .i64 0, .int .i64 0, .int .i64 0]) HR.out 0 (.int .i64 0) rfl) 1 (.int .i64 0) rfl) 2 (.int .i64 0) rfl) 3 (.int .i64 0) rfl)
          have HD5 := Aside0.mk (Below.setCell (Below.setCell (Below.setCell (Below.setCell HD.out (p := ⟨w.heap.size + 1 + 1, 0, none⟩) (by show w.heap.size ≤ w.heap.size + 1 + 1; omega) (.int .i64 0)) (p := ⟨w.heap.size + 1 + 1, 1, none⟩) (by show w.heap.size ≤ w.heap.size + 1 + 1; omega) (.int .i64 0)) (p := ⟨w.heap.size + 1 + 1, 2, none⟩) (by show w.heap.size ≤ w.heap.size + 1 + 1; omega) (.int .i64 0)) (p := ⟨w.heap.size + 1 + 1, 3, none⟩) (by show w.heap.size ≤ w.heap.size + 1 + 1; omega) (.int .i64 0))
          generalize (((p1.setCell ⟨w.heap.size + 1 + 1, 0, none⟩ (.int .i64 0)).setCell ⟨w.heap.size + 1 + 1, 1, none⟩ (.int .i64 0)).setCell ⟨w.heap.size + 1 + 1, 2, none⟩ (.int .i64 0)).setCell ⟨w.heap.size + 1 + 1, 3, none⟩ (.int .i64 0) = v9 at HR5 HD5 ⊢
          obtain ⟨d0, d1, d2, d3⟩ := cells4 HR5.out
          exact bodyPost_ret (v := .tuple #[.agg #[.int .i64 0, .int .i64 0, .int .i64 0, .int .i64 0], .bool false]) (by simp [results, Try.results32, go_sem, d0, d1, d2, d3]) rfl ⟨rfl, HD5.out⟩
        | false =>
          cases n2 : decide (x2 < y2) with
          | true =>
            simp only [cond_true, cond_false]
            go_enter Try.func32, Try.ntmps32
            go_wp2_with fail
            generalize (((w.alloc (.cells #[.int .i64 x0, .int .i64 x1, .int .i64 x2, .int .i64 x3] 24)).alloc (.cells #[.int .i64 y0, .int .i64 y1, .int .i64 y2, .int .i64 y3] 24)).alloc (.cells #[.int .i64 0, .int .i64 0, .int .i64 0, .int .i64 0] 24)).alloc (.cells #[.int .i64 0, .int .i64 0, .int .i64 0, .int .i64 0] 24) = t0 at HA0 HB0 HR0 HO0 HD0 ⊢
            obtain ⟨z0, z1, z2, z3⟩ := cells4 HO0.out
            have y_0 : t0.frozen? ⟨w.heap.size + 1 + 1 + 1, 0, none⟩ = false := blk_frozen HO0.out 0
            have y_1 : t0.frozen? ⟨w.heap.size + 1 + 1 + 1, 1, none⟩ = false := blk_frozen HO0.out 1
            have y_2 : t0.frozen? ⟨w.heap.size + 1 + 1 + 1, 2, none⟩ = false := blk_frozen HO0.out 2
            have y_3 : t0.frozen? ⟨w.heap.size + 1 + 1 + 1, 3, none⟩ = false := blk_frozen HO0.out 3
            obtain ⟨a0, a1, a2, a3⟩ := cells4 HA0.out
            go_wp2_with fail
            refine (HM.out t0).mono ?_
            rw [hv]
            rintro e t1 ⟨rfl, hb⟩
            have HA1 := Aside0.mk (blk_below HA0.out hb)
            have HB1 := Aside0.mk (blk_below HB0.out hb)
            have HR1 := Aside0.mk (blk_below HR0.out hb)
            have HO1 := Aside0.mk (blk_below HO0.out hb)
            have HD1 := Aside0.mk (HD0.out.trans (hb.mono HD0.out.size))
            clear hb HA0 HB0 HR0 HO0 HD0
            clear z0 z1 z2 z3 y_0 y_1 y_2 y_3 a0 a1 a2 a3
            obtain ⟨b0, b1, b2, b3⟩ := cells4 HB1.out
            go_wp2_with fail
            refine (HN.out t1).mono ?_
            rw [hu]
            rintro e t2 ⟨rfl, hb⟩
            have HA2 := Aside0.mk (blk_below HA1.out hb)
            have HB2 := Aside0.mk (blk_below HB1.out hb)
            have HR2 := Aside0.mk (blk_below HR1.out hb)
            have HO2 := Aside0.mk (blk_below HO1.out hb)
            have HD2 := Aside0.mk (HD1.out.trans (hb.mono HD1.out.size))
            clear hb HA1 HB1 HR1 HO1 HD1
            clear b0 b1 b2 b3
            go_wp2_with fail
            have HA := Aside0.mk HA2.out
            have HB := Aside0.mk HB2.out
            have HR := Aside0.mk HR2.out
            have HO := Aside0.mk HO2.out
            have HD := Aside0.mk HD2.out
            clear HA2 HB2 HR2 HO2 HD2
            refine wp_loop_rounds 3 ?_
            rw [rounds_succ]
            go_wp2
            have ca : (t2.drew).cell? ⟨w.heap.size, 0, none⟩ = some (.int .i64 x0) := (blk_cell (blk_drew HA.out) 0).trans rfl
            have cb : (t2.drew).cell? ⟨w.heap.size + 1, 0, none⟩ = some (.int .i64 y0) := (blk_cell (blk_drew HB.out) 0).trans rfl
            have KA := Aside0.mk (blk_drew HA.out)
            have KB := Aside0.mk (blk_drew HB.out)
            have KO := Aside0.mk (blk_drew HO.out)
            have KR := Aside0.mk (blk_drew HR.out)
            have KD := Aside0.mk (below_drew HD.out)
            refine wp_region_still_tail 6 (by kernel_rfl) (by kernel_rfl) ?_
            change wpStill Try.prog _ t2.drew (fun a' => wpList Try.prog _ _ _ a' t2.drew) _ _
            generalize t2.drew = p0 at KA KB KO KR KD ca cb ⊢
            clear HA HB HO HR HD
            simp only [List.take_succ_cons, List.take_zero, List.drop_succ_cons, List.drop_zero]
            repeat still_step
            refine wpStill_nil ?_
            have HA := Aside0.mk KA.out
            have HB := Aside0.mk KB.out
            have HO := Aside0.mk KO.out
            have HR := Aside0.mk KR.out
            have HD := Aside0.mk KD.out
            clear KA KB KO KR KD
            go_wp2_with fail
            clear ca cb
            have ca : (p0.drew).cell? ⟨w.heap.size, 0, none⟩ = some (.int .i64 x0) := (blk_cell (blk_drew HA.out) 0).trans rfl
            have cb : (p0.drew).cell? ⟨w.heap.size + 1, 0, none⟩ = some (.int .i64 y0) := (blk_cell (blk_drew HB.out) 0).trans rfl
            have cc : (p0.drew).cell? ⟨w.heap.size + 1 + 1 + 1, 0, none⟩ = some (.int .i64 0) := (blk_cell (blk_drew HO.out) 0).trans rfl
            have cf : (p0.drew).frozen? ⟨w.heap.size + 1 + 1 + 1, 0, none⟩ = false := blk_frozen (blk_drew HO.out) 0
            have KA := Aside0.mk (blk_drew HA.out)
            have KB := Aside0.mk (blk_drew HB.out)
            have KO := Aside0.mk (blk_drew HO.out)
            have KR := Aside0.mk (blk_drew HR.out)
            have KD := Aside0.mk (below_drew HD.out)
            refine wp_region_still_tail 9 (by kernel_rfl) (by kernel_rfl) ?_
            change wpStill Try.prog _ p0.drew (fun a' => wpList Try.prog _ _ _ a' p0.drew) _ _
            generalize p0.drew = q0 at KA KB KO KR KD ca cb cc cf ⊢
            clear HA HB HO HR HD
            simp only [List.take_succ_cons, List.take_zero, List.drop_succ_cons, List.drop_zero]
            repeat still_step
            refine wpStill_nil ?_
            go_wp2
            have HA := Aside0.mk (blk_far KA.out (p := ⟨w.heap.size + 1 + 1 + 1, 0, none⟩) (by show _ ≠ w.heap.size + 1 + 1 + 1; omega) (.int .i64 (wrap64 (x0 - y0))))
            have HB := Aside0.mk (blk_far KB.out (p := ⟨w.heap.size + 1 + 1 + 1, 0, none⟩) (by show _ ≠ w.heap.size + 1 + 1 + 1; omega) (.int .i64 (wrap64 (x0 - y0))))
            have HR := Aside0.mk (blk_far KR.out (p := ⟨w.heap.size + 1 + 1 + 1, 0, none⟩) (by show _ ≠ w.heap.size + 1 + 1 + 1; omega) (.int .i64 (wrap64 (x0 - y0))))
            have HO := Aside0.mk (blk_put (cs' := #[.int .i64 (wrap64 (x0 - y0)), .int .i64 0, .int .i64 0, .int .i64 0]) KO.out 0 (.int .i64 (wrap64 (x0 - y0))) rfl)
            have HD := Aside0.mk (Below.setCell KD.out (p := ⟨w.heap.size + 1 + 1 + 1, 0, none⟩) (by show w.heap.size ≤ w.heap.size + 1 + 1 + 1; omega) (.int .i64 (wrap64 (x0 - y0))))
            generalize q0.setCell ⟨w.heap.size + 1 + 1 + 1, 0, none⟩ (.int .i64 (wrap64 (x0 - y0))) = v1 at HA HB HO HR HD ⊢
            clear KA KB KO KR KD ca cb cc cf
            rw [rounds_succ]
            go_wp2
            have ca : (v1.drew).cell? ⟨w.heap.size, 1, none⟩ = some (.int .i64 x1) := (blk_cell (blk_drew HA.out) 1).trans rfl
            have cb : (v1.drew).cell? ⟨w.heap.size + 1, 1, none⟩ = some (.int .i64 y1) := (blk_cell (blk_drew HB.out) 1).trans rfl
            have KA := Aside0.mk (blk_drew HA.out)
            have KB := Aside0.mk (blk_drew HB.out)
            have KO := Aside0.mk (blk_drew HO.out)
            have KR := Aside0.mk (blk_drew HR.out)
            have KD := Aside0.mk (below_drew HD.out)
            refine wp_region_still_tail 6 (by kernel_rfl) (by kernel_rfl) ?_
            change wpStill Try.prog _ v1.drew (fun a' => wpList Try.prog _ _ _ a' v1.drew) _ _
            generalize v1.drew = p1 at KA KB KO KR KD ca cb ⊢
            clear HA HB HO HR HD
            simp only [List.take_succ_cons, List.take_zero, List.drop_succ_cons, List.drop_zero]
            repeat still_step
            refine wpStill_nil ?_
            have HA := Aside0.mk KA.out
            have HB := Aside0.mk KB.out
            have HO := Aside0.mk KO.out
            have HR := Aside0.mk KR.out
            have HD := Aside0.mk KD.out
            clear KA KB KO KR KD
            go_wp2_with fail
            clear ca cb
            have ca : (p1.drew).cell? ⟨w.heap.size, 1, none⟩ = some (.int .i64 x1) := (blk_cell (blk_drew HA.out) 1).trans rfl
            have cb : (p1.drew).cell? ⟨w.heap.size + 1, 1, none⟩ = some (.int .i64 y1) := (blk_cell (blk_drew HB.out) 1).trans rfl
            have cc : (p1.drew).cell? ⟨w.heap.size + 1 + 1 + 1, 1, none⟩ = some (.int .i64 0) := (blk_cell (blk_drew HO.out) 1).trans rfl
            have cf : (p1.drew).frozen? ⟨w.heap.size + 1 + 1 + 1, 1, none⟩ = false := blk_frozen (blk_drew HO.out) 1
            have KA := Aside0.mk (blk_drew HA.out)
            have KB := Aside0.mk (blk_drew HB.out)
            have KO := Aside0.mk (blk_drew HO.out)
            have KR := Aside0.mk (blk_drew HR.out)
            have KD := Aside0.mk (below_drew HD.out)
            refine wp_region_still_tail 9 (by kernel_rfl) (by kernel_rfl) ?_
            change wpStill Try.prog _ p1.drew (fun a' => wpList Try.prog _ _ _ a' p1.drew) _ _
            generalize p1.drew = q1 at KA KB KO KR KD ca cb cc cf ⊢
            clear HA HB HO HR HD
            simp only [List.take_succ_cons, List.take_zero, List.drop_succ_cons, List.drop_zero]
            repeat still_step
            refine wpStill_nil ?_
            go_wp2
            have HA := Aside0.mk (blk_far KA.out (p := ⟨w.heap.size + 1 + 1 + 1, 1, none⟩) (by show _ ≠ w.heap.size + 1 + 1 + 1; omega) (.int .i64 (wrap64 (x1 - y1))))
            have HB := Aside0.mk (blk_far KB.out (p := ⟨w.heap.size + 1 + 1 + 1, 1, none⟩) (by show _ ≠ w.heap.size + 1 + 1 + 1; omega) (.int .i64 (wrap64 (x1 - y1))))
            have HR := Aside0.mk (blk_far KR.out (p := ⟨w.heap.size + 1 + 1 + 1, 1, none⟩) (by show _ ≠ w.heap.size + 1 + 1 + 1; omega) (.int .i64 (wrap64 (x1 - y1))))
            have HO := Aside0.mk (blk_put (cs' := #[.int .i64 (wrap64 (x0 - y0)), .int .i64 (wrap64 (x1 - y1)), .int .i64 0, .int .i64 0]) KO.out 1 (.int .i64 (wrap64 (x1 - y1))) rfl)
            have HD := Aside0.mk (Below.setCell KD.out (p := ⟨w.heap.size + 1 + 1 + 1, 1, none⟩) (by show w.heap.size ≤ w.heap.size + 1 + 1 + 1; omega) (.int .i64 (wrap64 (x1 - y1))))
            generalize q1.setCell ⟨w.heap.size + 1 + 1 + 1, 1, none⟩ (.int .i64 (wrap64 (x1 - y1))) = v2 at HA HB HO HR HD ⊢
            clear KA KB KO KR KD ca cb cc cf
            rw [rounds_succ]
            go_wp2
            have ca : (v2.drew).cell? ⟨w.heap.size, 2, none⟩ = some (.int .i64 x2) := (blk_cell (blk_drew HA.out) 2).trans rfl
            have cb : (v2.drew).cell? ⟨w.heap.size + 1, 2, none⟩ = some (.int .i64 y2) := (blk_cell (blk_drew HB.out) 2).trans rfl
            have KA := Aside0.mk (blk_drew HA.out)
            have KB := Aside0.mk (blk_drew HB.out)
            have KO := Aside0.mk (blk_drew HO.out)
            have KR := Aside0.mk (blk_drew HR.out)
            have KD := Aside0.mk (below_drew HD.out)
            refine wp_region_still_tail 6 (by kernel_rfl) (by kernel_rfl) ?_
            change wpStill Try.prog _ v2.drew (fun a' => wpList Try.prog _ _ _ a' v2.drew) _ _
            generalize v2.drew = p2 at KA KB KO KR KD ca cb ⊢
            clear HA HB HO HR HD
            simp only [List.take_succ_cons, List.take_zero, List.drop_succ_cons, List.drop_zero]
            repeat still_step
            refine wpStill_nil ?_
            have HA := Aside0.mk KA.out
            have HB := Aside0.mk KB.out
            have HO := Aside0.mk KO.out
            have HR := Aside0.mk KR.out
            have HD := Aside0.mk KD.out
            clear KA KB KO KR KD
            have f0 : p2.frozen? ⟨w.heap.size + 1 + 1, 0, none⟩ = false := blk_frozen HR.out 0
            have f1 : p2.frozen? ⟨w.heap.size + 1 + 1, 1, none⟩ = false := blk_frozen HR.out 1
            have f2 : p2.frozen? ⟨w.heap.size + 1 + 1, 2, none⟩ = false := blk_frozen HR.out 2
            have f3 : p2.frozen? ⟨w.heap.size + 1 + 1, 3, none⟩ = false := blk_frozen HR.out 3
            obtain ⟨r0, r1, r2, r3⟩ := cells4 HR.out
            go_wp2
            have HR5 := Aside0.mk (blk_put (cs' := #[.int .i64 0, .int .i64 0, .int .i64 0, .int .i64 0]) (blk_put (cs' := #[.int .i64 0, .int .i64 0, .int .i64 0, .int .i64 0]) (blk_put (cs' := #[.int .i64 0, .int .i64 0, .int .i64 0, .int .i64 0]) (blk_put (cs' := #[.int .i64 0, .int .i64 0, .int .i64 0, .int .i64 0]) HR.out 0 (.int .i64 0) rfl) 1 (.int .i64 0) rfl) 2 (.int .i64 0) rfl) 3 (.int .i64 0) rfl)
            have HD5 := Aside0.mk (Below.setCell (Below.setCell (Below.setCell (Below.setCell HD.out (p := ⟨w.heap.size + 1 + 1, 0, none⟩) (by show w.heap.size ≤ w.heap.size + 1 + 1; omega) (.int .i64 0)) (p := ⟨w.heap.size + 1 + 1, 1, none⟩) (by show w.heap.size ≤ w.heap.size + 1 + 1; omega) (.int .i64 0)) (p := ⟨w.heap.size + 1 + 1, 2, none⟩) (by show w.heap.size ≤ w.heap.size + 1 + 1; omega) (.int .i64 0)) (p := ⟨w.heap.size + 1 + 1, 3, none⟩) (by show w.heap.size ≤ w.heap.size + 1 + 1; omega) (.int .i64 0))
            generalize (((p2.setCell ⟨w.heap.size + 1 + 1, 0, none⟩ (.int .i64 0)).setCell ⟨w.heap.size + 1 + 1, 1, none⟩ (.int .i64 0)).setCell ⟨w.heap.size + 1 + 1, 2, none⟩ (.int .i64 0)).setCell ⟨w.heap.size + 1 + 1, 3, none⟩ (.int .i64 0) = v9 at HR5 HD5 ⊢
            obtain ⟨d0, d1, d2, d3⟩ := cells4 HR5.out
            exact bodyPost_ret (v := .tuple #[.agg #[.int .i64 0, .int .i64 0, .int .i64 0, .int .i64 0], .bool false]) (by simp [results, Try.results32, go_sem, d0, d1, d2, d3]) rfl ⟨rfl, HD5.out⟩
          | false =>
            cases n3 : decide (x3 < y3) with
            | true =>
              simp only [cond_true, cond_false]
              go_enter Try.func32, Try.ntmps32
              go_wp2_with fail
              generalize (((w.alloc (.cells #[.int .i64 x0, .int .i64 x1, .int .i64 x2, .int .i64 x3] 24)).alloc (.cells #[.int .i64 y0, .int .i64 y1, .int .i64 y2, .int .i64 y3] 24)).alloc (.cells #[.int .i64 0, .int .i64 0, .int .i64 0, .int .i64 0] 24)).alloc (.cells #[.int .i64 0, .int .i64 0, .int .i64 0, .int .i64 0] 24) = t0 at HA0 HB0 HR0 HO0 HD0 ⊢
              obtain ⟨z0, z1, z2, z3⟩ := cells4 HO0.out
              have y_0 : t0.frozen? ⟨w.heap.size + 1 + 1 + 1, 0, none⟩ = false := blk_frozen HO0.out 0
              have y_1 : t0.frozen? ⟨w.heap.size + 1 + 1 + 1, 1, none⟩ = false := blk_frozen HO0.out 1
              have y_2 : t0.frozen? ⟨w.heap.size + 1 + 1 + 1, 2, none⟩ = false := blk_frozen HO0.out 2
              have y_3 : t0.frozen? ⟨w.heap.size + 1 + 1 + 1, 3, none⟩ = false := blk_frozen HO0.out 3
              obtain ⟨a0, a1, a2, a3⟩ := cells4 HA0.out
              go_wp2_with fail
              refine (HM.out t0).mono ?_
              rw [hv]
              rintro e t1 ⟨rfl, hb⟩
              have HA1 := Aside0.mk (blk_below HA0.out hb)
              have HB1 := Aside0.mk (blk_below HB0.out hb)
              have HR1 := Aside0.mk (blk_below HR0.out hb)
              have HO1 := Aside0.mk (blk_below HO0.out hb)
              have HD1 := Aside0.mk (HD0.out.trans (hb.mono HD0.out.size))
              clear hb HA0 HB0 HR0 HO0 HD0
              clear z0 z1 z2 z3 y_0 y_1 y_2 y_3 a0 a1 a2 a3
              obtain ⟨b0, b1, b2, b3⟩ := cells4 HB1.out
              go_wp2_with fail
              refine (HN.out t1).mono ?_
              rw [hu]
              rintro e t2 ⟨rfl, hb⟩
              have HA2 := Aside0.mk (blk_below HA1.out hb)
              have HB2 := Aside0.mk (blk_below HB1.out hb)
              have HR2 := Aside0.mk (blk_below HR1.out hb)
              have HO2 := Aside0.mk (blk_below HO1.out hb)
              have HD2 := Aside0.mk (HD1.out.trans (hb.mono HD1.out.size))
              clear hb HA1 HB1 HR1 HO1 HD1
              clear b0 b1 b2 b3
              go_wp2_with fail
              have HA := Aside0.mk HA2.out
              have HB := Aside0.mk HB2.out
              have HR := Aside0.mk HR2.out
              have HO := Aside0.mk HO2.out
              have HD := Aside0.mk HD2.out
              clear HA2 HB2 HR2 HO2 HD2
              refine wp_loop_rounds 4 ?_
              rw [rounds_succ]
              go_wp2
              have ca : (t2.drew).cell? ⟨w.heap.size, 0, none⟩ = some (.int .i64 x0) := (blk_cell (blk_drew HA.out) 0).trans rfl
              have cb : (t2.drew).cell? ⟨w.heap.size + 1, 0, none⟩ = some (.int .i64 y0) := (blk_cell (blk_drew HB.out) 0).trans rfl
              have KA := Aside0.mk (blk_drew HA.out)
              have KB := Aside0.mk (blk_drew HB.out)
              have KO := Aside0.mk (blk_drew HO.out)
              have KR := Aside0.mk (blk_drew HR.out)
              have KD := Aside0.mk (below_drew HD.out)
              refine wp_region_still_tail 6 (by kernel_rfl) (by kernel_rfl) ?_
              change wpStill Try.prog _ t2.drew (fun a' => wpList Try.prog _ _ _ a' t2.drew) _ _
              generalize t2.drew = p0 at KA KB KO KR KD ca cb ⊢
              clear HA HB HO HR HD
              simp only [List.take_succ_cons, List.take_zero, List.drop_succ_cons, List.drop_zero]
              repeat still_step
              refine wpStill_nil ?_
              have HA := Aside0.mk KA.out
              have HB := Aside0.mk KB.out
              have HO := Aside0.mk KO.out
              have HR := Aside0.mk KR.out
              have HD := Aside0.mk KD.out
              clear KA KB KO KR KD
              go_wp2_with fail
              clear ca cb
              have ca : (p0.drew).cell? ⟨w.heap.size, 0, none⟩ = some (.int .i64 x0) := (blk_cell (blk_drew HA.out) 0).trans rfl
              have cb : (p0.drew).cell? ⟨w.heap.size + 1, 0, none⟩ = some (.int .i64 y0) := (blk_cell (blk_drew HB.out) 0).trans rfl
              have cc : (p0.drew).cell? ⟨w.heap.size + 1 + 1 + 1, 0, none⟩ = some (.int .i64 0) := (blk_cell (blk_drew HO.out) 0).trans rfl
              have cf : (p0.drew).frozen? ⟨w.heap.size + 1 + 1 + 1, 0, none⟩ = false := blk_frozen (blk_drew HO.out) 0
              have KA := Aside0.mk (blk_drew HA.out)
              have KB := Aside0.mk (blk_drew HB.out)
              have KO := Aside0.mk (blk_drew HO.out)
              have KR := Aside0.mk (blk_drew HR.out)
              have KD := Aside0.mk (below_drew HD.out)
              refine wp_region_still_tail 9 (by kernel_rfl) (by kernel_rfl) ?_
              change wpStill Try.prog _ p0.drew (fun a' => wpList Try.prog _ _ _ a' p0.drew) _ _
              generalize p0.drew = q0 at KA KB KO KR KD ca cb cc cf ⊢
              clear HA HB HO HR HD
              simp only [List.take_succ_cons, List.take_zero, List.drop_succ_cons, List.drop_zero]
              repeat still_step
              refine wpStill_nil ?_
              go_wp2
              have HA := Aside0.mk (blk_far KA.out (p := ⟨w.heap.size + 1 + 1 + 1, 0, none⟩) (by show _ ≠ w.heap.size + 1 + 1 + 1; omega) (.int .i64 (wrap64 (x0 - y0))))
              have HB := Aside0.mk (blk_far KB.out (p := ⟨w.heap.size + 1 + 1 + 1, 0, none⟩) (by show _ ≠ w.heap.size + 1 + 1 + 1; omega) (.int .i64 (wrap64 (x0 - y0))))
              have HR := Aside0.mk (blk_far KR.out (p := ⟨w.heap.size + 1 + 1 + 1, 0, none⟩) (by show _ ≠ w.heap.size + 1 + 1 + 1; omega) (.int .i64 (wrap64 (x0 - y0))))
              have HO := Aside0.mk (blk_put (cs' := #[.int .i64 (wrap64 (x0 - y0)), .int .i64 0, .int .i64 0, .int .i64 0]) KO.out 0 (.int .i64 (wrap64 (x0 - y0))) rfl)
              have HD := Aside0.mk (Below.setCell KD.out (p := ⟨w.heap.size + 1 + 1 + 1, 0, none⟩) (by show w.heap.size ≤ w.heap.size + 1 + 1 + 1; omega) (.int .i64 (wrap64 (x0 - y0))))
              generalize q0.setCell ⟨w.heap.size + 1 + 1 + 1, 0, none⟩ (.int .i64 (wrap64 (x0 - y0))) = v1 at HA HB HO HR HD ⊢
              clear KA KB KO KR KD ca cb cc cf
              rw [rounds_succ]
              go_wp2
              have ca : (v1.drew).cell? ⟨w.heap.size, 1, none⟩ = some (.int .i64 x1) := (blk_cell (blk_drew HA.out) 1).trans rfl
              have cb : (v1.drew).cell? ⟨w.heap.size + 1, 1, none⟩ = some (.int .i64 y1) := (blk_cell (blk_drew HB.out) 1).trans rfl
              have KA := Aside0.mk (blk_drew HA.out)
              have KB := Aside0.mk (blk_drew HB.out)
              have KO := Aside0.mk (blk_drew HO.out)
              have KR := Aside0.mk (blk_drew HR.out)
              have KD := Aside0.mk (below_drew HD.out)
              refine wp_region_still_tail 6 (by kernel_rfl) (by kernel_rfl) ?_
              change wpStill Try.prog _ v1.drew (fun a' => wpList Try.prog _ _ _ a' v1.drew) _ _
              generalize v1.drew = p1 at KA KB KO KR KD ca cb ⊢
              clear HA HB HO HR HD
              simp only [List.take_succ_cons, List.take_zero, List.drop_succ_cons, List.drop_zero]
              repeat still_step
              refine wpStill_nil ?_
              have HA := Aside0.mk KA.out
              have HB := Aside0.mk KB.out
              have HO := Aside0.mk KO.out
              have HR := Aside0.mk KR.out
              have HD := Aside0.mk KD.out
              clear KA KB KO KR KD
              go_wp2_with fail
              clear ca cb
              have ca : (p1.drew).cell? ⟨w.heap.size, 1, none⟩ = some (.int .i64 x1) := (blk_cell (blk_drew HA.out) 1).trans rfl
              have cb : (p1.drew).cell? ⟨w.heap.size + 1, 1, none⟩ = some (.int .i64 y1) := (blk_cell (blk_drew HB.out) 1).trans rfl
              have cc : (p1.drew).cell? ⟨w.heap.size + 1 + 1 + 1, 1, none⟩ = some (.int .i64 0) := (blk_cell (blk_drew HO.out) 1).trans rfl
              have cf : (p1.drew).frozen? ⟨w.heap.size + 1 + 1 + 1, 1, none⟩ = false := blk_frozen (blk_drew HO.out) 1
              have KA := Aside0.mk (blk_drew HA.out)
              have KB := Aside0.mk (blk_drew HB.out)
              have KO := Aside0.mk (blk_drew HO.out)
              have KR := Aside0.mk (blk_drew HR.out)
              have KD := Aside0.mk (below_drew HD.out)
              refine wp_region_still_tail 9 (by kernel_rfl) (by kernel_rfl) ?_
              change wpStill Try.prog _ p1.drew (fun a' => wpList Try.prog _ _ _ a' p1.drew) _ _
              generalize p1.drew = q1 at KA KB KO KR KD ca cb cc cf ⊢
              clear HA HB HO HR HD
              simp only [List.take_succ_cons, List.take_zero, List.drop_succ_cons, List.drop_zero]
              repeat still_step
              refine wpStill_nil ?_
              go_wp2
              have HA := Aside0.mk (blk_far KA.out (p := ⟨w.heap.size + 1 + 1 + 1, 1, none⟩) (by show _ ≠ w.heap.size + 1 + 1 + 1; omega) (.int .i64 (wrap64 (x1 - y1))))
              have HB := Aside0.mk (blk_far KB.out (p := ⟨w.heap.size + 1 + 1 + 1, 1, none⟩) (by show _ ≠ w.heap.size + 1 + 1 + 1; omega) (.int .i64 (wrap64 (x1 - y1))))
              have HR := Aside0.mk (blk_far KR.out (p := ⟨w.heap.size + 1 + 1 + 1, 1, none⟩) (by show _ ≠ w.heap.size + 1 + 1 + 1; omega) (.int .i64 (wrap64 (x1 - y1))))
              have HO := Aside0.mk (blk_put (cs' := #[.int .i64 (wrap64 (x0 - y0)), .int .i64 (wrap64 (x1 - y1)), .int .i64 0, .int .i64 0]) KO.out 1 (.int .i64 (wrap64 (x1 - y1))) rfl)
              have HD := Aside0.mk (Below.setCell KD.out (p := ⟨w.heap.size + 1 + 1 + 1, 1, none⟩) (by show w.heap.size ≤ w.heap.size + 1 + 1 + 1; omega) (.int .i64 (wrap64 (x1 - y1))))
              generalize q1.setCell ⟨w.heap.size + 1 + 1 + 1, 1, none⟩ (.int .i64 (wrap64 (x1 - y1))) = v2 at HA HB HO HR HD ⊢
              clear KA KB KO KR KD ca cb cc cf
              rw [rounds_succ]
              go_wp2
              have ca : (v2.drew).cell? ⟨w.heap.size, 2, none⟩ = some (.int .i64 x2) := (blk_cell (blk_drew HA.out) 2).trans rfl
              have cb : (v2.drew).cell? ⟨w.heap.size + 1, 2, none⟩ = some (.int .i64 y2) := (blk_cell (blk_drew HB.out) 2).trans rfl
              have KA := Aside0.mk (blk_drew HA.out)
              have KB := Aside0.mk (blk_drew HB.out)
              have KO := Aside0.mk (blk_drew HO.out)
              have KR := Aside0.mk (blk_drew HR.out)
              have KD := Aside0.mk (below_drew HD.out)
              refine wp_region_still_tail 6 (by kernel_rfl) (by kernel_rfl) ?_
              change wpStill Try.prog _ v2.drew (fun a' => wpList Try.prog _ _ _ a' v2.drew) _ _
              generalize v2.drew = p2 at KA KB KO KR KD ca cb ⊢
              clear HA HB HO HR HD
              simp only [List.take_succ_cons, List.take_zero, List.drop_succ_cons, List.drop_zero]
              repeat still_step
              refine wpStill_nil ?_
              have HA := Aside0.mk KA.out
              have HB := Aside0.mk KB.out
              have HO := Aside0.mk KO.out
              have HR := Aside0.mk KR.out
              have HD := Aside0.mk KD.out
              clear KA KB KO KR KD
              go_wp2_with fail
              clear ca cb
              have ca : (p2.drew).cell? ⟨w.heap.size, 2, none⟩ = some (.int .i64 x2) := (blk_cell (blk_drew HA.out) 2).trans rfl
              have cb : (p2.drew).cell? ⟨w.heap.size + 1, 2, none⟩ = some (.int .i64 y2) := (blk_cell (blk_drew HB.out) 2).trans rfl
              have cc : (p2.drew).cell? ⟨w.heap.size + 1 + 1 + 1, 2, none⟩ = some (.int .i64 0) := (blk_cell (blk_drew HO.out) 2).trans rfl
              have cf : (p2.drew).frozen? ⟨w.heap.size + 1 + 1 + 1, 2, none⟩ = false := blk_frozen (blk_drew HO.out) 2
              have KA := Aside0.mk (blk_drew HA.out)
              have KB := Aside0.mk (blk_drew HB.out)
              have KO := Aside0.mk (blk_drew HO.out)
              have KR := Aside0.mk (blk_drew HR.out)
              have KD := Aside0.mk (below_drew HD.out)
              refine wp_region_still_tail 9 (by kernel_rfl) (by kernel_rfl) ?_
              change wpStill Try.prog _ p2.drew (fun a' => wpList Try.prog _ _ _ a' p2.drew) _ _
              generalize p2.drew = q2 at KA KB KO KR KD ca cb cc cf ⊢
              clear HA HB HO HR HD
              simp only [List.take_succ_cons, List.take_zero, List.drop_succ_cons, List.drop_zero]
              repeat still_step
              refine wpStill_nil ?_
              go_wp2
              have HA := Aside0.mk (blk_far KA.out (p := ⟨w.heap.size + 1 + 1 + 1, 2, none⟩) (by show _ ≠ w.heap.size + 1 + 1 + 1; omega) (.int .i64 (wrap64 (x2 - y2))))
              have HB := Aside0.mk (blk_far KB.out (p := ⟨w.heap.size + 1 + 1 + 1, 2, none⟩) (by show _ ≠ w.heap.size + 1 + 1 + 1; omega) (.int .i64 (wrap64 (x2 - y2))))
              have HR := Aside0.mk (blk_far KR.out (p := ⟨w.heap.size + 1 + 1 + 1, 2, none⟩) (by show _ ≠ w.heap.size + 1 + 1 + 1; omega) (.int .i64 (wrap64 (x2 - y2))))
              have HO := Aside0.mk (blk_put (cs' := #[.int .i64 (wrap64 (x0 - y0)), .int .i64 (wrap64 (x1 - y1)), .int .i64 (wrap64 (x2 - y2)), .int .i64 0]) KO.out 2 (.int .i64 (wrap64 (x2 - y2))) rfl)
              have HD := Aside0.mk (Below.setCell KD.out (p := ⟨w.heap.size + 1 + 1 + 1, 2, none⟩) (by show w.heap.size ≤ w.heap.size + 1 + 1 + 1; omega) (.int .i64 (wrap64 (x2 - y2))))
              generalize q2.setCell ⟨w.heap.size + 1 + 1 + 1, 2, none⟩ (.int .i64 (wrap64 (x2 - y2))) = v3 at HA HB HO HR HD ⊢
              clear KA KB KO KR KD ca cb cc cf
              rw [rounds_succ]
              go_wp2
              have ca : (v3.drew).cell? ⟨w.heap.size, 3, none⟩ = some (.int .i64 x3) := (blk_cell (blk_drew HA.out) 3).trans rfl
              have cb : (v3.drew).cell? ⟨w.heap.size + 1, 3, none⟩ = some (.int .i64 y3) := (blk_cell (blk_drew HB.out) 3).trans rfl
              have KA := Aside0.mk (blk_drew HA.out)
              have KB := Aside0.mk (blk_drew HB.out)
              have KO := Aside0.mk (blk_drew HO.out)
              have KR := Aside0.mk (blk_drew HR.out)
              have KD := Aside0.mk (below_drew HD.out)
              refine wp_region_still_tail 6 (by kernel_rfl) (by kernel_rfl) ?_
              change wpStill Try.prog _ v3.drew (fun a' => wpList Try.prog _ _ _ a' v3.drew) _ _
              generalize v3.drew = p3 at KA KB KO KR KD ca cb ⊢
              clear HA HB HO HR HD
              simp only [List.take_succ_cons, List.take_zero, List.drop_succ_cons, List.drop_zero]
              repeat still_step
              refine wpStill_nil ?_
              have HA := Aside0.mk KA.out
              have HB := Aside0.mk KB.out
              have HO := Aside0.mk KO.out
              have HR := Aside0.mk KR.out
              have HD := Aside0.mk KD.out
              clear KA KB KO KR KD
              have f0 : p3.frozen? ⟨w.heap.size + 1 + 1, 0, none⟩ = false := blk_frozen HR.out 0
              have f1 : p3.frozen? ⟨w.heap.size + 1 + 1, 1, none⟩ = false := blk_frozen HR.out 1
              have f2 : p3.frozen? ⟨w.heap.size + 1 + 1, 2, none⟩ = false := blk_frozen HR.out 2
              have f3 : p3.frozen? ⟨w.heap.size + 1 + 1, 3, none⟩ = false := blk_frozen HR.out 3
              obtain ⟨r0, r1, r2, r3⟩ := cells4 HR.out
              go_wp2
              have HR5 := Aside0.mk (blk_put (cs' := #[.int .i64 0, .int .i64 0, .int .i64 0, .int .i64 0]) (blk_put (cs' := #[.int .i64 0, .int .i64 0, .int .i64 0, .int .i64 0]) (blk_put (cs' := #[.int .i64 0, .int .i64 0, .int .i64 0, .int .i64 0]) (blk_put (cs' := #[.int .i64 0, .int .i64 0, .int .i64 0, .int .i64 0]) HR.out 0 (.int .i64 0) rfl) 1 (.int .i64 0) rfl) 2 (.int .i64 0) rfl) 3 (.int .i64 0) rfl)
              have HD5 := Aside0.mk (Below.setCell (Below.setCell (Below.setCell (Below.setCell HD.out (p := ⟨w.heap.size + 1 + 1, 0, none⟩) (by show w.heap.size ≤ w.heap.size + 1 + 1; omega) (.int .i64 0)) (p := ⟨w.heap.size + 1 + 1, 1, none⟩) (by show w.heap.size ≤ w.heap.size + 1 + 1; omega) (.int .i64 0)) (p := ⟨w.heap.size + 1 + 1, 2, none⟩) (by show w.heap.size ≤ w.heap.size + 1 + 1; omega) (.int .i64 0)) (p := ⟨w.heap.size + 1 + 1, 3, none⟩) (by show w.heap.size ≤ w.heap.size + 1 + 1; omega) (.int .i64 0))
              generalize (((p3.setCell ⟨w.heap.size + 1 + 1, 0, none⟩ (.int .i64 0)).setCell ⟨w.heap.size + 1 + 1, 1, none⟩ (.int .i64 0)).setCell ⟨w.heap.size + 1 + 1, 2, none⟩ (.int .i64 0)).setCell ⟨w.heap.size + 1 + 1, 3, none⟩ (.int .i64 0) = v9 at HR5 HD5 ⊢
              obtain ⟨d0, d1, d2, d3⟩ := cells4 HR5.out
              exact bodyPost_ret (v := .tuple #[.agg #[.int .i64 0, .int .i64 0, .int .i64 0, .int .i64 0], .bool false]) (by simp [results, Try.results32, go_sem, d0, d1, d2, d3]) rfl ⟨rfl, HD5.out⟩
            | false =>
              simp only [cond_true, cond_false]
              go_enter Try.func32, Try.ntmps32
              go_wp2_with fail
              generalize (((w.alloc (.cells #[.int .i64 x0, .int .i64 x1, .int .i64 x2, .int .i64 x3] 24)).alloc (.cells #[.int .i64 y0, .int .i64 y1, .int .i64 y2, .int .i64 y3] 24)).alloc (.cells #[.int .i64 0, .int .i64 0, .int .i64 0, .int .i64 0] 24)).alloc (.cells #[.int .i64 0, .int .i64 0, .int .i64 0, .int .i64 0] 24) = t0 at HA0 HB0 HR0 HO0 HD0 ⊢
              obtain ⟨z0, z1, z2, z3⟩ := cells4 HO0.out
              have y_0 : t0.frozen? ⟨w.heap.size + 1 + 1 + 1, 0, none⟩ = false := blk_frozen HO0.out 0
              have y_1 : t0.frozen? ⟨w.heap.size + 1 + 1 + 1, 1, none⟩ = false := blk_frozen HO0.out 1
              have y_2 : t0.frozen? ⟨w.heap.size + 1 + 1 + 1, 2, none⟩ = false := blk_frozen HO0.out 2
              have y_3 : t0.frozen? ⟨w.heap.size + 1 + 1 + 1, 3, none⟩ = false := blk_frozen HO0.out 3
              obtain ⟨a0, a1, a2, a3⟩ := cells4 HA0.out
              go_wp2_with fail
              refine (HM.out t0).mono ?_
              rw [hv]
              rintro e t1 ⟨rfl, hb⟩
              have HA1 := Aside0.mk (blk_below HA0.out hb)
              have HB1 := Aside0.mk (blk_below HB0.out hb)
              have HR1 := Aside0.mk (blk_below HR0.out hb)
              have HO1 := Aside0.mk (blk_below HO0.out hb)
              have HD1 := Aside0.mk (HD0.out.trans (hb.mono HD0.out.size))
              clear hb HA0 HB0 HR0 HO0 HD0
              clear z0 z1 z2 z3 y_0 y_1 y_2 y_3 a0 a1 a2 a3
              obtain ⟨b0, b1, b2, b3⟩ := cells4 HB1.out
              go_wp2_with fail
              refine (HN.out t1).mono ?_
              rw [hu]
              rintro e t2 ⟨rfl, hb⟩
              have HA2 := Aside0.mk (blk_below HA1.out hb)
              have HB2 := Aside0.mk (blk_below HB1.out hb)
              have HR2 := Aside0.mk (blk_below HR1.out hb)
              have HO2 := Aside0.mk (blk_below HO1.out hb)
              have HD2 := Aside0.mk (HD1.out.trans (hb.mono HD1.out.size))
              clear hb HA1 HB1 HR1 HO1 HD1
              clear b0 b1 b2 b3
              go_wp2_with fail
              have HA := Aside0.mk HA2.out
              have HB := Aside0.mk HB2.out
              have HR := Aside0.mk HR2.out
              have HO := Aside0.mk HO2.out
              have HD := Aside0.mk HD2.out
              clear HA2 HB2 HR2 HO2 HD2
              refine wp_loop_rounds 5 ?_
              rw [rounds_succ]
              go_wp2
              have ca : (t2.drew).cell? ⟨w.heap.size, 0, none⟩ = some (.int .i64 x0) := (blk_cell (blk_drew HA.out) 0).trans rfl
              have cb : (t2.drew).cell? ⟨w.heap.size + 1, 0, none⟩ = some (.int .i64 y0) := (blk_cell (blk_drew HB.out) 0).trans rfl
              have KA := Aside0.mk (blk_drew HA.out)
              have KB := Aside0.mk (blk_drew HB.out)
              have KO := Aside0.mk (blk_drew HO.out)
              have KR := Aside0.mk (blk_drew HR.out)
              have KD := Aside0.mk (below_drew HD.out)
              refine wp_region_still_tail 6 (by kernel_rfl) (by kernel_rfl) ?_
              change wpStill Try.prog _ t2.drew (fun a' => wpList Try.prog _ _ _ a' t2.drew) _ _
              generalize t2.drew = p0 at KA KB KO KR KD ca cb ⊢
              clear HA HB HO HR HD
              simp only [List.take_succ_cons, List.take_zero, List.drop_succ_cons, List.drop_zero]
              repeat still_step
              refine wpStill_nil ?_
              have HA := Aside0.mk KA.out
              have HB := Aside0.mk KB.out
              have HO := Aside0.mk KO.out
              have HR := Aside0.mk KR.out
              have HD := Aside0.mk KD.out
              clear KA KB KO KR KD
              go_wp2_with fail
              clear ca cb
              have ca : (p0.drew).cell? ⟨w.heap.size, 0, none⟩ = some (.int .i64 x0) := (blk_cell (blk_drew HA.out) 0).trans rfl
              have cb : (p0.drew).cell? ⟨w.heap.size + 1, 0, none⟩ = some (.int .i64 y0) := (blk_cell (blk_drew HB.out) 0).trans rfl
              have cc : (p0.drew).cell? ⟨w.heap.size + 1 + 1 + 1, 0, none⟩ = some (.int .i64 0) := (blk_cell (blk_drew HO.out) 0).trans rfl
              have cf : (p0.drew).frozen? ⟨w.heap.size + 1 + 1 + 1, 0, none⟩ = false := blk_frozen (blk_drew HO.out) 0
              have KA := Aside0.mk (blk_drew HA.out)
              have KB := Aside0.mk (blk_drew HB.out)
              have KO := Aside0.mk (blk_drew HO.out)
              have KR := Aside0.mk (blk_drew HR.out)
              have KD := Aside0.mk (below_drew HD.out)
              refine wp_region_still_tail 9 (by kernel_rfl) (by kernel_rfl) ?_
              change wpStill Try.prog _ p0.drew (fun a' => wpList Try.prog _ _ _ a' p0.drew) _ _
              generalize p0.drew = q0 at KA KB KO KR KD ca cb cc cf ⊢
              clear HA HB HO HR HD
              simp only [List.take_succ_cons, List.take_zero, List.drop_succ_cons, List.drop_zero]
              repeat still_step
              refine wpStill_nil ?_
              go_wp2
              have HA := Aside0.mk (blk_far KA.out (p := ⟨w.heap.size + 1 + 1 + 1, 0, none⟩) (by show _ ≠ w.heap.size + 1 + 1 + 1; omega) (.int .i64 (wrap64 (x0 - y0))))
              have HB := Aside0.mk (blk_far KB.out (p := ⟨w.heap.size + 1 + 1 + 1, 0, none⟩) (by show _ ≠ w.heap.size + 1 + 1 + 1; omega) (.int .i64 (wrap64 (x0 - y0))))
              have HR := Aside0.mk (blk_far KR.out (p := ⟨w.heap.size + 1 + 1 + 1, 0, none⟩) (by show _ ≠ w.heap.size + 1 + 1 + 1; omega) (.int .i64 (wrap64 (x0 - y0))))
              have HO := Aside0.mk (blk_put (cs' := #[.int .i64 (wrap64 (x0 - y0)), .int .i64 0, .int .i64 0, .int .i64 0]) KO.out 0 (.int .i64 (wrap64 (x0 - y0))) rfl)
              have HD := Aside0.mk (Below.setCell KD.out (p := ⟨w.heap.size + 1 + 1 + 1, 0, none⟩) (by show w.heap.size ≤ w.heap.size + 1 + 1 + 1; omega) (.int .i64 (wrap64 (x0 - y0))))
              generalize q0.setCell ⟨w.heap.size + 1 + 1 + 1, 0, none⟩ (.int .i64 (wrap64 (x0 - y0))) = v1 at HA HB HO HR HD ⊢
              clear KA KB KO KR KD ca cb cc cf
              rw [rounds_succ]
              go_wp2
              have ca : (v1.drew).cell? ⟨w.heap.size, 1, none⟩ = some (.int .i64 x1) := (blk_cell (blk_drew HA.out) 1).trans rfl
              have cb : (v1.drew).cell? ⟨w.heap.size + 1, 1, none⟩ = some (.int .i64 y1) := (blk_cell (blk_drew HB.out) 1).trans rfl
              have KA := Aside0.mk (blk_drew HA.out)
              have KB := Aside0.mk (blk_drew HB.out)
              have KO := Aside0.mk (blk_drew HO.out)
              have KR := Aside0.mk (blk_drew HR.out)
              have KD := Aside0.mk (below_drew HD.out)
              refine wp_region_still_tail 6 (by kernel_rfl) (by kernel_rfl) ?_
              change wpStill Try.prog _ v1.drew (fun a' => wpList Try.prog _ _ _ a' v1.drew) _ _
              generalize v1.drew = p1 at KA KB KO KR KD ca cb ⊢
              clear HA HB HO HR HD
              simp only [List.take_succ_cons, List.take_zero, List.drop_succ_cons, List.drop_zero]
              repeat still_step
              refine wpStill_nil ?_
              have HA := Aside0.mk KA.out
              have HB := Aside0.mk KB.out
              have HO := Aside0.mk KO.out
              have HR := Aside0.mk KR.out
              have HD := Aside0.mk KD.out
              clear KA KB KO KR KD
              go_wp2_with fail
              clear ca cb
              have ca : (p1.drew).cell? ⟨w.heap.size, 1, none⟩ = some (.int .i64 x1) := (blk_cell (blk_drew HA.out) 1).trans rfl
              have cb : (p1.drew).cell? ⟨w.heap.size + 1, 1, none⟩ = some (.int .i64 y1) := (blk_cell (blk_drew HB.out) 1).trans rfl
              have cc : (p1.drew).cell? ⟨w.heap.size + 1 + 1 + 1, 1, none⟩ = some (.int .i64 0) := (blk_cell (blk_drew HO.out) 1).trans rfl
              have cf : (p1.drew).frozen? ⟨w.heap.size + 1 + 1 + 1, 1, none⟩ = false := blk_frozen (blk_drew HO.out) 1
              have KA := Aside0.mk (blk_drew HA.out)
              have KB := Aside0.mk (blk_drew HB.out)
              have KO := Aside0.mk (blk_drew HO.out)
              have KR := Aside0.mk (blk_drew HR.out)
              have KD := Aside0.mk (below_drew HD.out)
              refine wp_region_still_tail 9 (by kernel_rfl) (by kernel_rfl) ?_
              change wpStill Try.prog _ p1.drew (fun a' => wpList Try.prog _ _ _ a' p1.drew) _ _
              generalize p1.drew = q1 at KA KB KO KR KD ca cb cc cf ⊢
              clear HA HB HO HR HD
              simp only [List.take_succ_cons, List.take_zero, List.drop_succ_cons, List.drop_zero]
              repeat still_step
              refine wpStill_nil ?_
              go_wp2
              have HA := Aside0.mk (blk_far KA.out (p := ⟨w.heap.size + 1 + 1 + 1, 1, none⟩) (by show _ ≠ w.heap.size + 1 + 1 + 1; omega) (.int .i64 (wrap64 (x1 - y1))))
              have HB := Aside0.mk (blk_far KB.out (p := ⟨w.heap.size + 1 + 1 + 1, 1, none⟩) (by show _ ≠ w.heap.size + 1 + 1 + 1; omega) (.int .i64 (wrap64 (x1 - y1))))
              have HR := Aside0.mk (blk_far KR.out (p := ⟨w.heap.size + 1 + 1 + 1, 1, none⟩) (by show _ ≠ w.heap.size + 1 + 1 + 1; omega) (.int .i64 (wrap64 (x1 - y1))))
              have HO := Aside0.mk (blk_put (cs' := #[.int .i64 (wrap64 (x0 - y0)), .int .i64 (wrap64 (x1 - y1)), .int .i64 0, .int .i64 0]) KO.out 1 (.int .i64 (wrap64 (x1 - y1))) rfl)
              have HD := Aside0.mk (Below.setCell KD.out (p := ⟨w.heap.size + 1 + 1 + 1, 1, none⟩) (by show w.heap.size ≤ w.heap.size + 1 + 1 + 1; omega) (.int .i64 (wrap64 (x1 - y1))))
              generalize q1.setCell ⟨w.heap.size + 1 + 1 + 1, 1, none⟩ (.int .i64 (wrap64 (x1 - y1))) = v2 at HA HB HO HR HD ⊢
              clear KA KB KO KR KD ca cb cc cf
              rw [rounds_succ]
              go_wp2
              have ca : (v2.drew).cell? ⟨w.heap.size, 2, none⟩ = some (.int .i64 x2) := (blk_cell (blk_drew HA.out) 2).trans rfl
              have cb : (v2.drew).cell? ⟨w.heap.size + 1, 2, none⟩ = some (.int .i64 y2) := (blk_cell (blk_drew HB.out) 2).trans rfl
              have KA := Aside0.mk (blk_drew HA.out)
              have KB := Aside0.mk (blk_drew HB.out)
              have KO := Aside0.mk (blk_drew HO.out)
              have KR := Aside0.mk (blk_drew HR.out)
              have KD := Aside0.mk (below_drew HD.out)
              refine wp_region_still_tail 6 (by kernel_rfl) (by kernel_rfl) ?_
              change wpStill Try.prog _ v2.drew (fun a' => wpList Try.prog _ _ _ a' v2.drew) _ _
              generalize v2.drew = p2 at KA KB KO KR KD ca cb ⊢
              clear HA HB HO HR HD
              simp only [List.take_succ_cons, List.take_zero, List.drop_succ_cons, List.drop_zero]
              repeat still_step
              refine wpStill_nil ?_
              have HA := Aside0.mk KA.out
              have HB := Aside0.mk KB.out
              have HO := Aside0.mk KO.out
              have HR := Aside0.mk KR.out
              have HD := Aside0.mk KD.out
              clear KA KB KO KR KD
              go_wp2_with fail
              clear ca cb
              have ca : (p2.drew).cell? ⟨w.heap.size, 2, none⟩ = some (.int .i64 x2) := (blk_cell (blk_drew HA.out) 2).trans rfl
              have cb : (p2.drew).cell? ⟨w.heap.size + 1, 2, none⟩ = some (.int .i64 y2) := (blk_cell (blk_drew HB.out) 2).trans rfl
              have cc : (p2.drew).cell? ⟨w.heap.size + 1 + 1 + 1, 2, none⟩ = some (.int .i64 0) := (blk_cell (blk_drew HO.out) 2).trans rfl
              have cf : (p2.drew).frozen? ⟨w.heap.size + 1 + 1 + 1, 2, none⟩ = false := blk_frozen (blk_drew HO.out) 2
              have KA := Aside0.mk (blk_drew HA.out)
              have KB := Aside0.mk (blk_drew HB.out)
              have KO := Aside0.mk (blk_drew HO.out)
              have KR := Aside0.mk (blk_drew HR.out)
              have KD := Aside0.mk (below_drew HD.out)
              refine wp_region_still_tail 9 (by kernel_rfl) (by kernel_rfl) ?_
              change wpStill Try.prog _ p2.drew (fun a' => wpList Try.prog _ _ _ a' p2.drew) _ _
              generalize p2.drew = q2 at KA KB KO KR KD ca cb cc cf ⊢
              clear HA HB HO HR HD
              simp only [List.take_succ_cons, List.take_zero, List.drop_succ_cons, List.drop_zero]
              repeat still_step
              refine wpStill_nil ?_
              go_wp2
              have HA := Aside0.mk (blk_far KA.out (p := ⟨w.heap.size + 1 + 1 + 1, 2, none⟩) (by show _ ≠ w.heap.size + 1 + 1 + 1; omega) (.int .i64 (wrap64 (x2 - y2))))
              have HB := Aside0.mk (blk_far KB.out (p := ⟨w.heap.size + 1 + 1 + 1, 2, none⟩) (by show _ ≠ w.heap.size + 1 + 1 + 1; omega) (.int .i64 (wrap64 (x2 - y2))))
              have HR := Aside0.mk (blk_far KR.out (p := ⟨w.heap.size + 1 + 1 + 1, 2, none⟩) (by show _ ≠ w.heap.size + 1 + 1 + 1; omega) (.int .i64 (wrap64 (x2 - y2))))
              have HO := Aside0.mk (blk_put (cs' := #[.int .i64 (wrap64 (x0 - y0)), .int .i64 (wrap64 (x1 - y1)), .int .i64 (wrap64 (x2 - y2)), .int .i64 0]) KO.out 2 (.int .i64 (wrap64 (x2 - y2))) rfl)
              have HD := Aside0.mk (Below.setCell KD.out (p := ⟨w.heap.size + 1 + 1 + 1, 2, none⟩) (by show w.heap.size ≤ w.heap.size + 1 + 1 + 1; omega) (.int .i64 (wrap64 (x2 - y2))))
              generalize q2.setCell ⟨w.heap.size + 1 + 1 + 1, 2, none⟩ (.int .i64 (wrap64 (x2 - y2))) = v3 at HA HB HO HR HD ⊢
              clear KA KB KO KR KD ca cb cc cf
              rw [rounds_succ]
              go_wp2
              have ca : (v3.drew).cell? ⟨w.heap.size, 3, none⟩ = some (.int .i64 x3) := (blk_cell (blk_drew HA.out) 3).trans rfl
              have cb : (v3.drew).cell? ⟨w.heap.size + 1, 3, none⟩ = some (.int .i64 y3) := (blk_cell (blk_drew HB.out) 3).trans rfl
              have KA := Aside0.mk (blk_drew HA.out)
              have KB := Aside0.mk (blk_drew HB.out)
              have KO := Aside0.mk (blk_drew HO.out)
              have KR := Aside0.mk (blk_drew HR.out)
              have KD := Aside0.mk (below_drew HD.out)
              refine wp_region_still_tail 6 (by kernel_rfl) (by kernel_rfl) ?_
              change wpStill Try.prog _ v3.drew (fun a' => wpList Try.prog _ _ _ a' v3.drew) _ _
              generalize v3.drew = p3 at KA KB KO KR KD ca cb ⊢
              clear HA HB HO HR HD
              simp only [List.take_succ_cons, List.take_zero, List.drop_succ_cons, List.drop_zero]
              repeat still_step
              refine wpStill_nil ?_
              have HA := Aside0.mk KA.out
              have HB := Aside0.mk KB.out
              have HO := Aside0.mk KO.out
              have HR := Aside0.mk KR.out
              have HD := Aside0.mk KD.out
              clear KA KB KO KR KD
              go_wp2_with fail
              clear ca cb
              have ca : (p3.drew).cell? ⟨w.heap.size, 3, none⟩ = some (.int .i64 x3) := (blk_cell (blk_drew HA.out) 3).trans rfl
              have cb : (p3.drew).cell? ⟨w.heap.size + 1, 3, none⟩ = some (.int .i64 y3) := (blk_cell (blk_drew HB.out) 3).trans rfl
              have cc : (p3.drew).cell? ⟨w.heap.size + 1 + 1 + 1, 3, none⟩ = some (.int .i64 0) := (blk_cell (blk_drew HO.out) 3).trans rfl
              have cf : (p3.drew).frozen? ⟨w.heap.size + 1 + 1 + 1, 3, none⟩ = false := blk_frozen (blk_drew HO.out) 3
              have KA := Aside0.mk (blk_drew HA.out)
              have KB := Aside0.mk (blk_drew HB.out)
              have KO := Aside0.mk (blk_drew HO.out)
              have KR := Aside0.mk (blk_drew HR.out)
              have KD := Aside0.mk (below_drew HD.out)
              refine wp_region_still_tail 9 (by kernel_rfl) (by kernel_rfl) ?_
              change wpStill Try.prog _ p3.drew (fun a' => wpList Try.prog _ _ _ a' p3.drew) _ _
              generalize p3.drew = q3 at KA KB KO KR KD ca cb cc cf ⊢
              clear HA HB HO HR HD
              simp only [List.take_succ_cons, List.take_zero, List.drop_succ_cons, List.drop_zero]
              repeat still_step
              refine wpStill_nil ?_
              go_wp2
              have HA := Aside0.mk (blk_far KA.out (p := ⟨w.heap.size + 1 + 1 + 1, 3, none⟩) (by show _ ≠ w.heap.size + 1 + 1 + 1; omega) (.int .i64 (wrap64 (x3 - y3))))
              have HB := Aside0.mk (blk_far KB.out (p := ⟨w.heap.size + 1 + 1 + 1, 3, none⟩) (by show _ ≠ w.heap.size + 1 + 1 + 1; omega) (.int .i64 (wrap64 (x3 - y3))))
              have HR := Aside0.mk (blk_far KR.out (p := ⟨w.heap.size + 1 + 1 + 1, 3, none⟩) (by show _ ≠ w.heap.size + 1 + 1 + 1; omega) (.int .i64 (wrap64 (x3 - y3))))
              have HO := Aside0.mk (blk_put (cs' := #[.int .i64 (wrap64 (x0 - y0)), .int .i64 (wrap64 (x1 - y1)), .int .i64 (wrap64 (x2 - y2)), .int .i64 (wrap64 (x3 - y3))]) KO.out 3 (.int .i64 (wrap64 (x3 - y3))) rfl)
              have HD := Aside0.mk (Below.setCell KD.out (p := ⟨w.heap.size + 1 + 1 + 1, 3, none⟩) (by show w.heap.size ≤ w.heap.size + 1 + 1 + 1; omega) (.int .i64 (wrap64 (x3 - y3))))
              generalize q3.setCell ⟨w.heap.size + 1 + 1 + 1, 3, none⟩ (.int .i64 (wrap64 (x3 - y3))) = v4 at HA HB HO HR HD ⊢
              clear KA KB KO KR KD ca cb cc cf
              rw [rounds_succ]
              obtain ⟨o0, o1, o2, o3⟩ := cells4 HO.out
              have f0 : v4.frozen? ⟨w.heap.size + 1 + 1, 0, none⟩ = false := blk_frozen HR.out 0
              have f1 : v4.frozen? ⟨w.heap.size + 1 + 1, 1, none⟩ = false := blk_frozen HR.out 1
              have f2 : v4.frozen? ⟨w.heap.size + 1 + 1, 2, none⟩ = false := blk_frozen HR.out 2
              have f3 : v4.frozen? ⟨w.heap.size + 1 + 1, 3, none⟩ = false := blk_frozen HR.out 3
              obtain ⟨r0, r1, r2, r3⟩ := cells4 HR.out
              go_wp2
              have HR5 := Aside0.mk (blk_put (cs' := #[.int .i64 (wrap64 (x0 - y0)), .int .i64 (wrap64 (x1 - y1)), .int .i64 (wrap64 (x2 - y2)), .int .i64 (wrap64 (x3 - y3))]) (blk_put (cs' := #[.int .i64 (wrap64 (x0 - y0)), .int .i64 (wrap64 (x1 - y1)), .int .i64 (wrap64 (x2 - y2)), .int .i64 0]) (blk_put (cs' := #[.int .i64 (wrap64 (x0 - y0)), .int .i64 (wrap64 (x1 - y1)), .int .i64 0, .int .i64 0]) (blk_put (cs' := #[.int .i64 (wrap64 (x0 - y0)), .int .i64 0, .int .i64 0, .int .i64 0]) HR.out 0 (.int .i64 (wrap64 (x0 - y0))) rfl) 1 (.int .i64 (wrap64 (x1 - y1))) rfl) 2 (.int .i64 (wrap64 (x2 - y2))) rfl) 3 (.int .i64 (wrap64 (x3 - y3))) rfl)
              have HD5 := Aside0.mk (Below.setCell (Below.setCell (Below.setCell (Below.setCell HD.out (p := ⟨w.heap.size + 1 + 1, 0, none⟩) (by show w.heap.size ≤ w.heap.size + 1 + 1; omega) (.int .i64 (wrap64 (x0 - y0)))) (p := ⟨w.heap.size + 1 + 1, 1, none⟩) (by show w.heap.size ≤ w.heap.size + 1 + 1; omega) (.int .i64 (wrap64 (x1 - y1)))) (p := ⟨w.heap.size + 1 + 1, 2, none⟩) (by show w.heap.size ≤ w.heap.size + 1 + 1; omega) (.int .i64 (wrap64 (x2 - y2)))) (p := ⟨w.heap.size + 1 + 1, 3, none⟩) (by show w.heap.size ≤ w.heap.size + 1 + 1; omega) (.int .i64 (wrap64 (x3 - y3))))
              generalize (((v4.setCell ⟨w.heap.size + 1 + 1, 0, none⟩ (.int .i64 (wrap64 (x0 - y0)))).setCell ⟨w.heap.size + 1 + 1, 1, none⟩ (.int .i64 (wrap64 (x1 - y1)))).setCell ⟨w.heap.size + 1 + 1, 2, none⟩ (.int .i64 (wrap64 (x2 - y2)))).setCell ⟨w.heap.size + 1 + 1, 3, none⟩ (.int .i64 (wrap64 (x3 - y3))) = v9 at HR5 HD5 ⊢
              obtain ⟨d0, d1, d2, d3⟩ := cells4 HR5.out
              exact bodyPost_ret (v := .tuple #[.agg #[.int .i64 (wrap64 (x0 - y0)), .int .i64 (wrap64 (x1 - y1)), .int .i64 (wrap64 (x2 - y2)), .int .i64 (wrap64 (x3 - y3))], .bool true]) (by simp [results, Try.results32, go_sem, d0, d1, d2, d3]) rfl ⟨rfl, HD5.out⟩
def syzygyref08_Div.f (x0 x1 x2 x3 y0 y1 y2 y3 : Int) : Option (Int × Int × Int × Int × Bool) := some (syzygyref08_Div.v x0 x1 x2 x3 y0 y1 y2 y3)
theorem syzygyref08_Div.calls (x0 x1 x2 x3 y0 y1 y2 y3 : Int) (r1 r2 r3 r4 : Int) (r5 : Bool) (w : World) (h : syzygyref08_Div.f x0 x1 x2 x3 y0 y1 y2 y3 = some (r1, r2, r3, r4, r5)) :
    Calls Try.prog 32 #[.agg #[.int .i64 x0, .int .i64 x1, .int .i64 x2, .int .i64 x3], .agg #[.int .i64 y0, .int .i64 y1, .int .i64 y2, .int .i64 y3]] w fun e w' => e = .returned (.tuple #[.agg #[.int .i64 r1, .int .i64 r2, .int .i64 r3, .int .i64 r4], .bool r5]) ∧ Below w.heap.size w w' := by
  have h := Option.some.inj h
  have := syzygyref08_Div.calls_ x0 x1 x2 x3 y0 y1 y2 y3 w
  rw [h] at this
  exact this

end Go.Proofs.Ytmknpclfanblfaa.POMonoTells
