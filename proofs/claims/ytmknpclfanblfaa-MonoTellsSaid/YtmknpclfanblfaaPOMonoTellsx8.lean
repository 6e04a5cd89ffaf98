-- Written by a program of this session (pr.py, over the kit's print.py).
import Derived.Test.YtmknpclfanblfaaPOMonoTellsx0
import Derived.Test.YtmknpclfanblfaaPOMonoTellsx1
import Derived.Test.YtmknpclfanblfaaPOMonoTellsx2
import Derived.Test.YtmknpclfanblfaaPOMonoTellsx4
import Derived.Test.YtmknpclfanblfaaPOMonoTellsx5
namespace Go.Proofs.Ytmknpclfanblfaa.POMonoTells
open Go.RowKit Go.Proofs.YtmknpclfanblfaaN Go.Proofs.YtmknpclfanblfaaW.PrintWords Go.Proofs.YtmknpclfanblfaaW.PrintLast Go.Proofs.YtmknpclfanblfaaW.PrintMore
attribute [local go_sem] max2_int min2_int max_two min_two max_three min_three max_four min_four   -- for this text's walks alone
set_option linter.unusedVariables false
set_option linter.unusedSimpArgs false

attribute [local go_sem high] eqA24
/-! ### syzygyref08_Degree: function 36 -/
def syzygyref08_Degree.v (x0 x1 x2 x3 : Int) : Int := cond (syzygyref08_May.v x0 x1 x2 x3) (wrap64 (wrap64 (wrap64 (wrap64 x0 + x1) + x2) + x3)) 0
set_option maxHeartbeats 2000000 in
theorem syzygyref08_Degree.calls_ (x0 x1 x2 x3 : Int) (w : World) : Calls Try.prog 36 #[.agg #[.int .i64 x0, .int .i64 x1, .int .i64 x2, .int .i64 x3]] w fun e w' => e = .returned (.int .i64 (syzygyref08_Degree.v x0 x1 x2 x3)) ∧ Below w.heap.size w w' := by
  have HB := Aside0.mk (blk_new w (.cells #[.int .i64 x0, .int .i64 x1, .int .i64 x2, .int .i64 x3] 24))
  have HD := Aside0.mk (below_alloc (Below.refl _ w) (.cells #[.int .i64 x0, .int .i64 x1, .int .i64 x2, .int .i64 x3] 24))
  have HM := Aside0.mk (syzygyref08_May.calls_ x0 x1 x2 x3)
  unfold syzygyref08_Degree.v
  cases hv : syzygyref08_May.v x0 x1 x2 x3 with
  | false =>
    go_enter Try.func36, Try.ntmps36
    go_wp2_with fail
    generalize w.alloc (.cells #[.int .i64 x0, .int .i64 x1, .int .i64 x2, .int .i64 x3] 24) = v0 at HB HD ⊢
    obtain ⟨c0, c1, c2, c3⟩ := cells4 HB.out
    go_wp2_with fail
    refine (HM.out v0).mono ?_
    rw [hv]
    rintro e v1 ⟨rfl, hb⟩
    have HB1 := Aside0.mk (blk_below HB.out hb)
    have HD1 := Aside0.mk (HD.out.trans (hb.mono HD.out.size))
    clear hb hv HM HB HD c0 c1 c2 c3
    obtain ⟨c0, c1, c2, c3⟩ := cells4 HB1.out
    go_wp2
    go_ret
    exact ⟨rfl, HD1.out⟩
  | true =>
    go_enter Try.func36, Try.ntmps36
    go_wp2_with fail
    generalize w.alloc (.cells #[.int .i64 x0, .int .i64 x1, .int .i64 x2, .int .i64 x3] 24) = v0 at HB HD ⊢
    obtain ⟨c0, c1, c2, c3⟩ := cells4 HB.out
    go_wp2_with fail
    refine (HM.out v0).mono ?_
    rw [hv]
    rintro e v1 ⟨rfl, hb⟩
    have HB1 := Aside0.mk (blk_below HB.out hb)
    have HD1 := Aside0.mk (HD.out.trans (hb.mono HD.out.size))
    clear hb hv HM HB HD c0 c1 c2 c3
    obtain ⟨c0, c1, c2, c3⟩ := cells4 HB1.out
    go_wp2
    refine wp_loop_rounds 5 ?_
    rw [rounds_succ]
    go_wp2
    rw [rounds_succ]
    go_wp2
    rw [rounds_succ]
    go_wp2
    rw [rounds_succ]
    go_wp2
    rw [rounds_succ]
    go_wp2
    go_ret
    exact ⟨rfl, HD1.out⟩
def syzygyref08_Degree.f (x0 x1 x2 x3 : Int) : Option Int := some (syzygyref08_Degree.v x0 x1 x2 x3)
theorem syzygyref08_Degree.calls (x0 x1 x2 x3 : Int) (r : Int) (w : World) (h : syzygyref08_Degree.f x0 x1 x2 x3 = some r) :
    Calls Try.prog 36 #[.agg #[.int .i64 x0, .int .i64 x1, .int .i64 x2, .int .i64 x3]] w fun e w' => e = .returned (.int .i64 r) ∧ Below w.heap.size w w' := by
  obtain rfl := Option.some.inj h
  exact syzygyref08_Degree.calls_ x0 x1 x2 x3 w

/-! ### syzygyref08_Lcm: function 37 -/
section
theorem max2_mx8 (k k' : IntKind) (x y : Int) : Builtin.max2 (.int k x) (.int k' y) = pure (.int k (mx x y)) := max2_int k k' x y
attribute [local go_sem high] max2_mx8
def syzygyref08_Lcm.v (x0 x1 x2 x3 y0 y1 y2 y3 : Int) : Int × Int × Int × Int := cond (syzygyref08_May.v x0 x1 x2 x3) (cond (syzygyref08_May.v y0 y1 y2 y3) (mx x0 y0, mx x1 y1, mx x2 y2, mx x3 y3) (0, 0, 0, 0)) (0, 0, 0, 0)
set_option maxHeartbeats 4000000 in
theorem syzygyref08_Lcm.calls_ (x0 x1 x2 x3 y0 y1 y2 y3 : Int) (w : World) : Calls Try.prog 37 #[.agg #[.int .i64 x0, .int .i64 x1, .int .i64 x2, .int .i64 x3], .agg #[.int .i64 y0, .int .i64 y1, .int .i64 y2, .int .i64 y3]] w fun e w' => e = .returned (match syzygyref08_Lcm.v x0 x1 x2 x3 y0 y1 y2 y3 with | (r0, r1, r2, r3) => .agg #[.int .i64 r0, .int .i64 r1, .int .i64 r2, .int .i64 r3]) ∧ Below w.heap.size w w' := by
  unfold syzygyref08_Lcm.v
  have HM := Aside0.mk (syzygyref08_May.calls_ x0 x1 x2 x3)
  have HN := Aside0.mk (syzygyref08_May.calls_ y0 y1 y2 y3)
  have hA := blk_alloc (blk_alloc (blk_alloc (blk_new w (.cells #[.int .i64 x0, .int .i64 x1, .int .i64 x2, .int .i64 x3] 24)) (.cells #[.int .i64 y0, .int .i64 y1, .int .i64 y2, .int .i64 y3] 24)) (.cells #[.int .i64 0, .int .i64 0, .int .i64 0, .int .i64 0] 24)) (.cells #[.int .i64 0, .int .i64 0, .int .i64 0, .int .i64 0] 24)
  have hB := blk_alloc (blk_alloc (blk_new (w.alloc (.cells #[.int .i64 x0, .int .i64 x1, .int .i64 x2, .int .i64 x3] 24)) (.cells #[.int .i64 y0, .int .i64 y1, .int .i64 y2, .int .i64 y3] 24)) (.cells #[.int .i64 0, .int .i64 0, .int .i64 0, .int .i64 0] 24)) (.cells #[.int .i64 0, .int .i64 0, .int .i64 0, .int .i64 0] 24)
  have hR := blk_alloc (blk_new ((w.alloc (.cells #[.int .i64 x0, .int .i64 x1, .int .i64 x2, .int .i64 x3] 24)).alloc (.cells #[.int .i64 y0, .int .i64 y1, .int .i64 y2, .int .i64 y3] 24)) (.cells #[.int .i64 0, .int .i64 0, .int .i64 0, .int .i64 0] 24)) (.cells #[.int .i64 0, .int .i64 0, .int .i64 0, .int .i64 0] 24)
  have hO := blk_new (((w.alloc (.cells #[.int .i64 x0, .int .i64 x1, .int .i64 x2, .int .i64 x3] 24)).alloc (.cells #[.int .i64 y0, .int .i64 y1, .int .i64 y2, .int .i64 y3] 24)).alloc (.cells #[.int .i64 0, .int .i64 0, .int .i64 0, .int .i64 0] 24)) (.cells #[.int .i64 0, .int .i64 0, .int .i64 0, .int .i64 0] 24)
  have hD := below_alloc (below_alloc (below_alloc (below_alloc (Below.refl _ w) (.cells #[.int .i64 x0, .int .i64 x1, .int .i64 x2, .int .i64 x3] 24)) (.cells #[.int .i64 y0, .int .i64 y1, .int .i64 y2, .int .i64 y3] 24)) (.cells #[.int .i64 0, .int .i64 0, .int .i64 0, .int .i64 0] 24)) (.cells #[.int .i64 0, .int .i64 0, .int .i64 0, .int .i64 0] 24)
  simp only [World.size_alloc] at hA hB hR hO
  have HA0 := Aside0.mk hA
  have HB0 := Aside0.mk hB
  have HR0 := Aside0.mk hR
  have HO0 := Aside0.mk hO
  have HD0 := Aside0.mk hD
  clear hA hB hR hO hD
  cases hv : syzygyref08_May.v x0 x1 x2 x3 with
  | false =>
    simp only [cond_false]
    go_enter Try.func37, Try.ntmps37
    go_wp2_with fail
    generalize (((w.alloc (.cells #[.int .i64 x0, .int .i64 x1, .int .i64 x2, .int .i64 x3] 24)).alloc (.cells #[.int .i64 y0, .int .i64 y1, .int .i64 y2, .int .i64 y3] 24)).alloc (.cells #[.int .i64 0, .int .i64 0, .int .i64 0, .int .i64 0] 24)).alloc (.cells #[.int .i64 0, .int .i64 0, .int .i64 0, .int .i64 0] 24) = t0 at HA0 HB0 HR0 HO0 HD0 ⊢
    obtain ⟨z0, z1, z2, z3⟩ := cells4 HO0.out
    have y_0 : t0.frozen? ⟨w.heap.size + 1 + 1 + 1, 0, none⟩ = false := blk_frozen HO0.out 0
    have y_1 : t0.frozen? ⟨w.heap.size + 1 + 1 + 1, 1, none⟩ = false := blk_frozen HO0.out 1
    have y_2 : t0.frozen? ⟨w.heap.size + 1 + 1 + 1, 2, none⟩ = false := blk_frozen HO0.out 2
    have y_3 : t0.frozen? ⟨w.heap.size + 1 + 1 + 1, 3, none⟩ = false := blk_frozen HO0.out 3
    obtain ⟨a0, a1, a2, a3⟩ := cells4 HA0.out
    go_wp2_with fail
    refine (HM.out t0).mono ?_
    rw [hv]
    rintro e t1 ⟨rfl, hb⟩
    have HA1 := Aside0.mk (blk_below HA0.out hb)
    have HB1 := Aside0.mk (blk_below HB0.out hb)
    have HR1 := Aside0.mk (blk_below HR0.out hb)
    have HO1 := Aside0.mk (blk_below HO0.out hb)
    have HD1 := Aside0.mk (HD0.out.trans (hb.mono HD0.out.size))
    clear hb HA0 HB0 HR0 HO0 HD0
    clear z0 z1 z2 z3 y_0 y_1 y_2 y_3 a0 a1 a2 a3
    obtain ⟨o0, o1, o2, o3⟩ := cells4 HO1.out
    have f0 : t1.frozen? ⟨w.heap.size + 1 + 1, 0, none⟩ = false := blk_frozen HR1.out 0
    have f1 : t1.frozen? ⟨w.heap.size + 1 + 1, 1, none⟩ = false := blk_frozen HR1.out 1
    have f2 : t1.frozen? ⟨w.heap.size + 1 + 1, 2, none⟩ = false := blk_frozen HR1.out 2
    have f3 : t1.frozen? ⟨w.heap.size + 1 + 1, 3, none⟩ = false := blk_frozen HR1.out 3
    obtain ⟨r0, r1, r2, r3⟩ := cells4 HR1.out
    go_wp2
    have HR5 := Aside0.mk (blk_put (cs' := #[.int .i64 0, .int .i64 0, .int .i64 0, .int .i64 0]) (blk_put (cs' := #[.int .i64 0, .int .i64 0, .int .i64 0, .int .i64 0]) (blk_put (cs' := #[.int .i64 0, .int .i64 0, .int .i64 0, .int .i64 0]) (blk_put (cs' := #[.int .i64 0, .int .i64 0, .int .i64 0, .int .i64 0]) HR1.out 0 (.int .i64 0) rfl) 1 (.int .i64 0) rfl) 2 (.int .i64 0) rfl) 3 (.int .i64 0) rfl)
    have HD5 := Aside0.mk (Below.setCell (Below.setCell (Below.setCell (Below.setCell HD1.out (p := ⟨w.heap.size + 1 + 1, 0, none⟩) (by show w.heap.size ≤ w.heap.size + 1 + 1; omega) (.int .i64 0)) (p := ⟨w.heap.size + 1 + 1, 1, none⟩) (by show w.heap.size ≤ w.heap.size + 1 + 1; omega) (.int .i64 0)) (p := ⟨w.heap.size + 1 + 1, 2, none⟩) (by show w.heap.size ≤ w.heap.size + 1 + 1; omega) (.int .i64 0)) (p := ⟨w.heap.size + 1 + 1, 3, none⟩) (by show w.heap.size ≤ w.heap.size + 1 + 1; omega) (.int .i64 0))
    generalize (((t1.setCell ⟨w.heap.size + 1 + 1, 0, none⟩ (.int .i64 0)).setCell ⟨w.heap.size + 1 + 1, 1, none⟩ (.int .i64 0)).setCell ⟨w.heap.size + 1 + 1, 2, none⟩ (.int .i64 0)).setCell ⟨w.heap.size + 1 + 1, 3, none⟩ (.int .i64 0) = v9 at HR5 HD5 ⊢
    obtain ⟨d0, d1, d2, d3⟩ := cells4 HR5.out
    exact bodyPost_ret (v := .agg #[.int .i64 0, .int .i64 0, .int .i64 0, .int .i64 0]) (by simp [results, Try.results37, go_sem, d0, d1, d2, d3]) rfl ⟨rfl, HD5.out⟩
  | true =>
    cases hu : syzygyref08_May.v y0 y1 y2 y3 with
    | false =>
      simp only [cond_true, cond_false]
      go_enter Try.func37, Try.ntmps37
      go_wp2_with fail
      generalize (((w.alloc (.cells #[.int .i64 x0, .int .i64 x1, .int .i64 x2, .int .i64 x3] 24)).alloc (.cells #[.int .i64 y0, .int .i64 y1, .int .i64 y2, .int .i64 y3] 24)).alloc (.cells #[.int .i64 0, .int .i64 0, .int .i64 0, .int .i64 0] 24)).alloc (.cells #[.int .i64 0, .int .i64 0, .int .i64 0, .int .i64 0] 24) = t0 at HA0 HB0 HR0 HO0 HD0 ⊢
      obtain ⟨z0, z1, z2, z3⟩ := cells4 HO0.out
      have y_0 : t0.frozen? ⟨w.heap.size + 1 + 1 + 1, 0, none⟩ = false := blk_frozen HO0.out 0
      have y_1 : t0.frozen? ⟨w.heap.size + 1 + 1 + 1, 1, none⟩ = false := blk_frozen HO0.out 1
      have y_2 : t0.frozen? ⟨w.heap.size + 1 + 1 + 1, 2, none⟩ = false := blk_frozen HO0.out 2
      have y_3 : t0.frozen? ⟨w.heap.size + 1 + 1 + 1, 3, none⟩ = false := blk_frozen HO0.out 3
      obtain ⟨a0, a1, a2, a3⟩ := cells4 HA0.out
      go_wp2_with fail
      refine (HM.out t0).mono ?_
      rw [hv]
      rintro e t1 ⟨rfl, hb⟩
      have HA1 := Aside0.mk (blk_below HA0.out hb)
      have HB1 := Aside0.mk (blk_below HB0.out hb)
      have HR1 := Aside0.mk (blk_below HR0.out hb)
      have HO1 := Aside0.mk (blk_below HO0.out hb)
      have HD1 := Aside0.mk (HD0.out.trans (hb.mono HD0.out.size))
      clear hb HA0 HB0 HR0 HO0 HD0
      clear z0 z1 z2 z3 y_0 y_1 y_2 y_3 a0 a1 a2 a3
      obtain ⟨b0, b1, b2, b3⟩ := cells4 HB1.out
      go_wp2_with fail
      refine (HN.out t1).mono ?_
      rw [hu]
      rintro e t2 ⟨rfl, hb⟩
      have HA2 := Aside0.mk (blk_below HA1.out hb)
      have HB2 := Aside0.mk (blk_below HB1.out hb)
      have HR2 := Aside0.mk (blk_below HR1.out hb)
      have HO2 := Aside0.mk (blk_below HO1.out hb)
      have HD2 := Aside0.mk (HD1.out.trans (hb.mono HD1.out.size))
      clear hb HA1 HB1 HR1 HO1 HD1
      clear b0 b1 b2 b3
      obtain ⟨o0, o1, o2, o3⟩ := cells4 HO2.out
      have f0 : t2.frozen? ⟨w.heap.size + 1 + 1, 0, none⟩ = false := blk_frozen HR2.out 0
      have f1 : t2.frozen? ⟨w.heap.size + 1 + 1, 1, none⟩ = false := blk_frozen HR2.out 1
      have f2 : t2.frozen? ⟨w.heap.size + 1 + 1, 2, none⟩ = false := blk_frozen HR2.out 2
      have f3 : t2.frozen? ⟨w.heap.size + 1 + 1, 3, none⟩ = false := blk_frozen HR2.out 3
      obtain ⟨r0, r1, r2, r3⟩ := cells4 HR2.out
      go_wp2
      have HR5 := Aside0.mk (blk_put (cs' := #[.int .i64 0, .int .i64 0, .int .i64 0, .int .i64 0]) (blk_put (cs' := #[.int .i64 0, .int .i64 0, .int .i64 0, .int .i64 0]) (blk_put (cs' := #[.int .i64 0, .int .i64 0, .int .i64 0, .int .i64 0]) (blk_put (cs' := #[.int .i64 0, .int .i64 0, .int .i64 0, .int .i64 0]) HR2.out 0 (.int .i64 0) rfl) 1 (.int .i64 0) rfl) 2 (.int .i64 0) rfl) 3 (.int .i64 0) rfl)
      have HD5 := Aside0.mk (Below.setCell (Below.setCell (Below.setCell (Below.setCell HD2.out (p := ⟨w.heap.size + 1 + 1, 0, none⟩) (by show w.heap.size ≤ w.heap.size + 1 + 1; omega) (.int .i64 0)) (p := ⟨w.heap.size + 1 + 1, 1, none⟩) (by show w.heap.size ≤ w.heap.size + 1 + 1; omega) (.int .i64 0)) (p := ⟨w.heap.size + 1 + 1, 2, none⟩) (by show w.heap.size ≤ w.heap.size + 1 + 1; omega) (.int .i64 0)) (p := ⟨w.heap.size + 1 + 1, 3, none⟩) (by show w.heap.size ≤ w.heap.size + 1 + 1; omega) (.int .i64 0))
      generalize (((t2.setCell ⟨w.heap.size + 1 + 1, 0, none⟩ (.int .i64 0)).setCell ⟨w.heap.size + 1 + 1, 1, none⟩ (.int .i64 0)).setCell ⟨w.heap.size + 1 + 1, 2, none⟩ (.int .i64 0)).setCell ⟨w.heap.size + 1 + 1, 3, none⟩ (.int .i64 0) = v9 at HR5 HD5 ⊢
      obtain ⟨d0, d1, d2, d3⟩ := cells4 HR5.out
      exact bodyPost_ret (v := .agg #[.int .i64 0, .int .i64 0, .int .i64 0, .int .i64 0]) (by simp [results, Try.results37, go_sem, d0, d1, d2, d3]) rfl ⟨rfl, HD5.out⟩
    | true =>
      simp only [cond_true]
      go_enter Try.func37, Try.ntmps37
      go_wp2_with fail
      generalize (((w.alloc (.cells #[.int .i64 x0, .int .i64 x1, .int .i64 x2, .int .i64 x3] 24)).alloc (.cells #[.int .i64 y0, .int .i64 y1, .int .i64 y2, .int .i64 y3] 24)).alloc (.cells #[.int .i64 0, .int .i64 0, .int .i64 0, .int .i64 0] 24)).alloc (.cells #[.int .i64 0, .int .i64 0, .int .i64 0, .int .i64 0] 24) = t0 at HA0 HB0 HR0 HO0 HD0 ⊢
      obtain ⟨z0, z1, z2, z3⟩ := cells4 HO0.out
      have y_0 : t0.frozen? ⟨w.heap.size + 1 + 1 + 1, 0, none⟩ = false := blk_frozen HO0.out 0
      have y_1 : t0.frozen? ⟨w.heap.size + 1 + 1 + 1, 1, none⟩ = false := blk_frozen HO0.out 1
      have y_2 : t0.frozen? ⟨w.heap.size + 1 + 1 + 1, 2, none⟩ = false := blk_frozen HO0.out 2
      have y_3 : t0.frozen? ⟨w.heap.size + 1 + 1 + 1, 3, none⟩ = false := blk_frozen HO0.out 3
      obtain ⟨a0, a1, a2, a3⟩ := cells4 HA0.out
      go_wp2_with fail
      refine (HM.out t0).mono ?_
      rw [hv]
      rintro e t1 ⟨rfl, hb⟩
      have HA1 := Aside0.mk (blk_below HA0.out hb)
      have HB1 := Aside0.mk (blk_below HB0.out hb)
      have HR1 := Aside0.mk (blk_below HR0.out hb)
      have HO1 := Aside0.mk (blk_below HO0.out hb)
      have HD1 := Aside0.mk (HD0.out.trans (hb.mono HD0.out.size))
      clear hb HA0 HB0 HR0 HO0 HD0
      clear z0 z1 z2 z3 y_0 y_1 y_2 y_3 a0 a1 a2 a3
      obtain ⟨b0, b1, b2, b3⟩ := cells4 HB1.out
      go_wp2_with fail
      refine (HN.out t1).mono ?_
      rw [hu]
      rintro e t2 ⟨rfl, hb⟩
      have HA2 := Aside0.mk (blk_below HA1.out hb)
      have HB2 := Aside0.mk (blk_below HB1.out hb)
      have HR2 := Aside0.mk (blk_below HR1.out hb)
      have HO2 := Aside0.mk (blk_below HO1.out hb)
      have HD2 := Aside0.mk (HD1.out.trans (hb.mono HD1.out.size))
      clear hb HA1 HB1 HR1 HO1 HD1
      clear b0 b1 b2 b3
      go_wp2_with fail
      have HA := Aside0.mk HA2.out
      have HB := Aside0.mk HB2.out
      have HR := Aside0.mk HR2.out
      have HO := Aside0.mk HO2.out
      have HD := Aside0.mk HD2.out
      clear HA2 HB2 HR2 HO2 HD2
      refine wp_loop_rounds 5 ?_
      rw [rounds_succ]
      go_wp2
      have ca : (t2.drew).cell? ⟨w.heap.size, 0, none⟩ = some (.int .i64 x0) := (blk_cell (blk_drew HA.out) 0).trans rfl
      have cb : (t2.drew).cell? ⟨w.heap.size + 1, 0, none⟩ = some (.int .i64 y0) := (blk_cell (blk_drew HB.out) 0).trans rfl
      have cc : (t2.drew).cell? ⟨w.heap.size + 1 + 1 + 1, 0, none⟩ = some (.int .i64 0) := (blk_cell (blk_drew HO.out) 0).trans rfl
      have cf : (t2.drew).frozen? ⟨w.heap.size + 1 + 1 + 1, 0, none⟩ = false := blk_frozen (blk_drew HO.out) 0
      have KA := Aside0.mk (blk_drew HA.out)
      have KB := Aside0.mk (blk_drew HB.out)
      have KO := Aside0.mk (blk_drew HO.out)
      have KR := Aside0.mk (blk_drew HR.out)
      have KD := Aside0.mk (below_drew HD.out)
      refine wp_region_still_tail 9 (by kernel_rfl) (by kernel_rfl) ?_
      change wpStill Try.prog _ t2.drew (fun a' => wpList Try.prog _ _ _ a' t2.drew) _ _
      generalize t2.drew = u0 at KA KB KO KR KD ca cb cc cf ⊢
      clear HA HB HO HR HD
      simp only [List.take_succ_cons, List.take_zero, List.drop_succ_cons, List.drop_zero]
      repeat still_step
      refine wpStill_nil ?_
      go_wp2
      have HA := Aside0.mk (blk_far KA.out (p := ⟨w.heap.size + 1 + 1 + 1, 0, none⟩) (by show _ ≠ w.heap.size + 1 + 1 + 1; omega) (.int .i64 (mx x0 y0)))
      have HB := Aside0.mk (blk_far KB.out (p := ⟨w.heap.size + 1 + 1 + 1, 0, none⟩) (by show _ ≠ w.heap.size + 1 + 1 + 1; omega) (.int .i64 (mx x0 y0)))
      have HR := Aside0.mk (blk_far KR.out (p := ⟨w.heap.size + 1 + 1 + 1, 0, none⟩) (by show _ ≠ w.heap.size + 1 + 1 + 1; omega) (.int .i64 (mx x0 y0)))
      have HO := Aside0.mk (blk_put (cs' := #[.int .i64 (mx x0 y0), .int .i64 0, .int .i64 0, .int .i64 0]) KO.out 0 (.int .i64 (mx x0 y0)) rfl)
      have HD := Aside0.mk (Below.setCell KD.out (p := ⟨w.heap.size + 1 + 1 + 1, 0, none⟩) (by show w.heap.size ≤ w.heap.size + 1 + 1 + 1; omega) (.int .i64 (mx x0 y0)))
      generalize u0.setCell ⟨w.heap.size + 1 + 1 + 1, 0, none⟩ (.int .i64 (mx x0 y0)) = v1 at HA HB HO HR HD ⊢
      clear KA KB KO KR KD ca cb cc cf
      rw [rounds_succ]
      go_wp2
      have ca : (v1.drew).cell? ⟨w.heap.size, 1, none⟩ = some (.int .i64 x1) := (blk_cell (blk_drew HA.out) 1).trans rfl
      have cb : (v1.drew).cell? ⟨w.heap.size + 1, 1, none⟩ = some (.int .i64 y1) := (blk_cell (blk_drew HB.out) 1).trans rfl
      have cc : (v1.drew).cell? ⟨w.heap.size + 1 + 1 + 1, 1, none⟩ = some (.int .i64 0) := (blk_cell (blk_drew HO.out) 1).trans rfl
      have cf : (v1.drew).frozen? ⟨w.heap.size + 1 + 1 + 1, 1, none⟩ = false := blk_frozen (blk_drew HO.out) 1
      have KA := Aside0.mk (blk_drew HA.out)
      have KB := Aside0.mk (blk_drew HB.out)
      have KO := Aside0.mk (blk_drew HO.out)
      have KR := Aside0.mk (blk_drew HR.out)
      have KD := Aside0.mk (below_drew HD.out)
      refine wp_region_still_tail 9 (by kernel_rfl) (by kernel_rfl) ?_
      change wpStill Try.prog _ v1.drew (fun a' => wpList Try.prog _ _ _ a' v1.drew) _ _
      generalize v1.drew = u1 at KA KB KO KR KD ca cb cc cf ⊢
      clear HA HB HO HR HD
      simp only [List.take_succ_cons, List.take_zero, List.drop_succ_cons, List.drop_zero]
      repeat still_step
      refine wpStill_nil ?_
      go_wp2
      have HA := Aside0.mk (blk_far KA.out (p := ⟨w.heap.size + 1 + 1 + 1, 1, none⟩) (by show _ ≠ w.heap.size + 1 + 1 + 1; omega) (.int .i64 (mx x1 y1)))
      have HB := Aside0.mk (blk_far KB.out (p := ⟨w.heap.size + 1 + 1 + 1, 1, none⟩) (by show _ ≠ w.heap.size + 1 + 1 + 1; omega) (.int .i64 (mx x1 y1)))
      have HR := Aside0.mk (blk_far KR.out (p := ⟨w.heap.size + 1 + 1 + 1, 1, none⟩) (by show _ ≠ w.heap.size + 1 + 1 + 1; omega) (.int .i64 (mx x1 y1)))
      have HO := Aside0.mk (blk_put (cs' := #[.int .i64 (mx x0 y0), .int .i64 (mx x1 y1), .int .i64 0, .int .i64 0]) KO.out 1 (.int .i64 (mx x1 y1)) rfl)
      have HD := Aside0.mk (Below.setCell KD.out (p := ⟨w.heap.size + 1 + 1 + 1, 1, none⟩) (by show w.heap.size ≤ w.heap.size + 1 + 1 + 1; omega) (.int .i64 (mx x1 y1)))
      generalize u1.setCell ⟨w.heap.size + 1 + 1 + 1, 1, none⟩ (.int .i64 (mx x1 y1)) = v2 at HA HB HO HR HD ⊢
      clear KA KB KO KR KD ca cb cc cf
      rw [rounds_succ]
      go_wp2
      have ca : (v2.drew).cell? ⟨w.heap.size, 2, none⟩ = some (.int .i64 x2) := (blk_cell (blk_drew HA.out) 2).trans rfl
      have cb : (v2.drew).cell? ⟨w.heap.size + 1, 2, none⟩ = some (.int .i64 y2) := (blk_cell (blk_drew HB.out) 2).trans rfl
      have cc : (v2.drew).cell? ⟨w.heap.size + 1 + 1 + 1, 2, none⟩ = some (.int .i64 0) := (blk_cell (blk_drew HO.out) 2).trans rfl
      have cf : (v2.drew).frozen? ⟨w.heap.size + 1 + 1 + 1, 2, none⟩ = false := blk_frozen (blk_drew HO.out) 2
      have KA := Aside0.mk (blk_drew HA.out)
      have KB := Aside0.mk (blk_drew HB.out)
      have KO := Aside0.mk (blk_drew HO.out)
      have KR := Aside0.mk (blk_drew HR.out)
      have KD := Aside0.mk (below_drew HD.out)
      refine wp_region_still_tail 9 (by kernel_rfl) (by kernel_rfl) ?_
      change wpStill Try.prog _ v2.drew (fun a' => wpList Try.prog _ _ _ a' v2.drew) _ _
      generalize v2.drew = u2 at KA KB KO KR KD ca cb cc cf ⊢
      clear HA HB HO HR HD
      simp only [List.take_succ_cons, List.take_zero, List.drop_succ_cons, List.drop_zero]
      repeat still_step
      refine wpStill_nil ?_
      go_wp2
      have HA := Aside0.mk (blk_far KA.out (p := ⟨w.heap.size + 1 + 1 + 1, 2, none⟩) (by show _ ≠ w.heap.size + 1 + 1 + 1; omega) (.int .i64 (mx x2 y2)))
      have HB := Aside0.mk (blk_far KB.out (p := ⟨w.heap.size + 1 + 1 + 1, 2, none⟩) (by show _ ≠ w.heap.size + 1 + 1 + 1; omega) (.int .i64 (mx x2 y2)))
      have HR := Aside0.mk (blk_far KR.out (p := ⟨w.heap.size + 1 + 1 + 1, 2, none⟩) (by show _ ≠ w.heap.size + 1 + 1 + 1; omega) (.int .i64 (mx x2 y2)))
      have HO := Aside0.mk (blk_put (cs' := #[.int .i64 (mx x0 y0), .int .i64 (mx x1 y1), .int .i64 (mx x2 y2), .int .i64 0]) KO.out 2 (.int .i64 (mx x2 y2)) rfl)
      have HD := Aside0.mk (Below.setCell KD.out (p := ⟨w.heap.size + 1 + 1 + 1, 2, none⟩) (by show w.heap.size ≤ w.heap.size + 1 + 1 + 1; omega) (.int .i64 (mx x2 y2)))
      generalize u2.setCell ⟨w.heap.size + 1 + 1 + 1, 2, none⟩ (.int .i64 (mx x2 y2)) = v3 at HA HB HO HR HD ⊢
      clear KA KB KO KR KD ca cb cc cf
      rw [rounds_succ]
      go_wp2
      have ca : (v3.drew).cell? ⟨w.heap.size, 3, none⟩ = some (.int .i64 x3) := (blk_cell (blk_drew HA.out) 3).trans rfl
      have cb : (v3.drew).cell? ⟨w.heap.size + 1, 3, none⟩ = some (.int .i64 y3) := (blk_cell (blk_drew HB.out) 3).trans rfl
      have cc : (v3.drew).cell? ⟨w.heap.size + 1 + 1 + 1, 3, none⟩ = some (.int .i64 0) := (blk_cell (blk_drew HO.out) 3).trans rfl
      have cf : (v3.drew).frozen? ⟨w.heap.size + 1 + 1 + 1, 3, none⟩ = false := blk_frozen (blk_drew HO.out) 3
      have KA := Aside0.mk (blk_drew HA.out)
      have KB := Aside0.mk (blk_drew HB.out)
      have KO := Aside0.mk (blk_drew HO.out)
      have KR := Aside0.mk (blk_drew HR.out)
      have KD := Aside0.mk (below_drew HD.out)
      refine wp_region_still_tail 9 (by kernel_rfl) (by kernel_rfl) ?_
      change wpStill Try.prog _ v3.drew (fun a' => wpList Try.prog _ _ _ a' v3.drew) _ _
      generalize v3.drew = u3 at KA KB KO KR KD ca cb cc cf ⊢
      clear HA HB HO HR HD
      simp only [List.take_succ_cons, List.take_zero, List.drop_succ_cons, List.drop_zero]
      repeat still_step
      refine wpStill_nil ?_
      go_wp2
      have HA := Aside0.mk (blk_far KA.out (p := ⟨w.heap.size + 1 + 1 + 1, 3, none⟩) (by show _ ≠ w.heap.size + 1 + 1 + 1; omega) (.int .i64 (mx x3 y3)))
      have HB := Aside0.mk (blk_far KB.out (p := ⟨w.heap.size + 1 + 1 + 1, 3, none⟩) (by show _ ≠ w.heap.size + 1 + 1 + 1; omega) (.int .i64 (mx x3 y3)))
      have HR := Aside0.mk (blk_far KR.out (p := ⟨w.heap.size + 1 + 1 + 1, 3, none⟩) (by show _ ≠ w.heap.size + 1 + 1 + 1; omega) (.int .i64 (mx x3 y3)))
      have HO := Aside0.mk (blk_put (cs' := #[.int .i64 (mx x0 y0), .int .i64 (mx x1 y1), .int .i64 (mx x2 y2), .int .i64 (mx x3 y3)]) KO.out 3 (.int .i64 (mx x3 y3)) rfl)
      have HD := Aside0.mk (Below.setCell KD.out (p := ⟨w.heap.size + 1 + 1 + 1, 3, none⟩) (by show w.heap.size ≤ w.heap.size + 1 + 1 + 1; omega) (.int .i64 (mx x3 y3)))
      generalize u3.setCell ⟨w.heap.size + 1 + 1 + 1, 3, none⟩ (.int .i64 (mx x3 y3)) = v4 at HA HB HO HR HD ⊢
      clear KA KB KO KR KD ca cb cc cf
      rw [rounds_succ]
      obtain ⟨o0, o1, o2, o3⟩ := cells4 HO.out
      have f0 : v4.frozen? ⟨w.heap.size + 1 + 1, 0, none⟩ = false := blk_frozen HR.out 0
      have f1 : v4.frozen? ⟨w.heap.size + 1 + 1, 1, none⟩ = false := blk_frozen HR.out 1
      have f2 : v4.frozen? ⟨w.heap.size + 1 + 1, 2, none⟩ = false := blk_frozen HR.out 2
      have f3 : v4.frozen? ⟨w.heap.size + 1 + 1, 3, none⟩ = false := blk_frozen HR.out 3
      obtain ⟨r0, r1, r2, r3⟩ := cells4 HR.out
      go_wp2
      have HR5 := Aside0.mk (blk_put (cs' := #[.int .i64 (mx x0 y0), .int .i64 (mx x1 y1), .int .i64 (mx x2 y2), .int .i64 (mx x3 y3)]) (blk_put (cs' := #[.int .i64 (mx x0 y0), .int .i64 (mx x1 y1), .int .i64 (mx x2 y2), .int .i64 0]) (blk_put (cs' := #[.int .i64 (mx x0 y0), .int .i64 (mx x1 y1), .int .i64 0, .int .i64 0]) (blk_put (cs' := #[.int .i64 (mx x0 y0), .int .i64 0, .int .i64 0, .int .i64 0]) HR.out 0 (.int .i64 (mx x0 y0)) rfl) 1 (.int .i64 (mx x1 y1)) rfl) 2 (.int .i64 (mx x2 y2)) rfl) 3 (.int .i64 (mx x3 y3)) rfl)
      have HD5 := Aside0.mk (Below.setCell (Below.setCell (Below.setCell (Below.setCell HD.out (p := ⟨w.heap.size + 1 + 1, 0, none⟩) (by show w.heap.size ≤ w.heap.size + 1 + 1; omega) (.int .i64 (mx x0 y0))) (p := ⟨w.heap.size + 1 + 1, 1, none⟩) (by show w.heap.size ≤ w.heap.size + 1 + 1; omega) (.int .i64 (mx x1 y1))) (p := ⟨w.heap.size + 1 + 1, 2, none⟩) (by show w.heap.size ≤ w.heap.size + 1 + 1; omega) (.int .i64 (mx x2 y2))) (p := ⟨w.heap.size + 1 + 1, 3, none⟩) (by show w.heap.size ≤ w.heap.size + 1 + 1; omega) (.int .i64 (mx x3 y3)))
      generalize (((v4.setCell ⟨w.heap.size + 1 + 1, 0, none⟩ (.int .i64 (mx x0 y0))).setCell ⟨w.heap.size + 1 + 1, 1, none⟩ (.int .i64 (mx x1 y1))).setCell ⟨w.heap.size + 1 + 1, 2, none⟩ (.int .i64 (mx x2 y2))).setCell ⟨w.heap.size + 1 + 1, 3, none⟩ (.int .i64 (mx x3 y3)) = v9 at HR5 HD5 ⊢
      obtain ⟨d0, d1, d2, d3⟩ := cells4 HR5.out
      exact bodyPost_ret (v := .agg #[.int .i64 (mx x0 y0), .int .i64 (mx x1 y1), .int .i64 (mx x2 y2), .int .i64 (mx x3 y3)]) (by simp [results, Try.results37, go_sem, d0, d1, d2, d3]) rfl ⟨rfl, HD5.out⟩
def syzygyref08_Lcm.f (x0 x1 x2 x3 y0 y1 y2 y3 : Int) : Option (Int × Int × Int × Int) := some (syzygyref08_Lcm.v x0 x1 x2 x3 y0 y1 y2 y3)
theorem syzygyref08_Lcm.calls (x0 x1 x2 x3 y0 y1 y2 y3 : Int) (r1 r2 r3 r4 : Int) (w : World) (h : syzygyref08_Lcm.f x0 x1 x2 x3 y0 y1 y2 y3 = some (r1, r2, r3, r4)) :
    Calls Try.prog 37 #[.agg #[.int .i64 x0, .int .i64 x1, .int .i64 x2, .int .i64 x3], .agg #[.int .i64 y0, .int .i64 y1, .int .i64 y2, .int .i64 y3]] w fun e w' => e = .returned (.agg #[.int .i64 r1, .int .i64 r2, .int .i64 r3, .int .i64 r4]) ∧ Below w.heap.size w w' := by
  have h := Option.some.inj h
  have := syzygyref08_Lcm.calls_ x0 x1 x2 x3 y0 y1 y2 y3 w
  rw [h] at this
  exact this
end

-- NOT PRINTED: function 73 (mono_Coprime_1)

/-! ### mono_Coprime: function 38 -/
def mono_Coprime.f (a0_0 : Int) (a0_1 : Int) (a0_2 : Int) (a0_3 : Int) (a1_0 : Int) (a1_1 : Int) (a1_2 : Int) (a1_3 : Int) : Option (Bool) := (mono_May.f a0_0 a0_1 a0_2 a0_3).bind fun t142 => (if t142 = true then ((mono_May.f a1_0 a1_1 a1_2 a1_3).bind fun t143 => (if t143 = true then ((mono_zipped_73.f a0_0 a0_1 a0_2 a0_3 a1_0 a1_1 a1_2 a1_3).bind fun bt144 => (some (bt144.1 == 0 && (bt144.2.1 == 0 && (bt144.2.2.1 == 0 && (bt144.2.2.2 == 0)))))) else (some false))) else (some false))
set_option maxHeartbeats 8000000 in
set_option maxRecDepth 100000 in
theorem mono_Coprime.calls (a0_0 : Int) (a0_1 : Int) (a0_2 : Int) (a0_3 : Int) (a1_0 : Int) (a1_1 : Int) (a1_2 : Int) (a1_3 : Int) (r : Bool) (w : World) (h : mono_Coprime.f a0_0 a0_1 a0_2 a0_3 a1_0 a1_1 a1_2 a1_3 = some r) :
    Calls Try.prog 38 #[.agg #[.int .i64 a0_0, .int .i64 a0_1, .int .i64 a0_2, .int .i64 a0_3], .agg #[.int .i64 a1_0, .int .i64 a1_1, .int .i64 a1_2, .int .i64 a1_3]] w fun e w' => e = .returned (.bool r) ∧ Below w.heap.size w w' := by
  have hu24 := Try.underlying24
  have HB := Aside0.mk (Below.refl w.heap.size w)
  have H : ((mono_May.f a0_0 a0_1 a0_2 a0_3).bind fun t142 => (if t142 = true then ((mono_May.f a1_0 a1_1 a1_2 a1_3).bind fun t143 => (if t143 = true then ((mono_zipped_73.f a0_0 a0_1 a0_2 a0_3 a1_0 a1_1 a1_2 a1_3).bind fun bt144 => (some (bt144.1 == 0 && (bt144.2.1 == 0 && (bt144.2.2.1 == 0 && (bt144.2.2.2 == 0)))))) else (some false))) else (some false))) = some r := h
  clear h
  replace H := Option.bind_eq_some_iff.mp H
  obtain ⟨t142, A30, H⟩ := H
  replace H : (if t142 = true then ((mono_May.f a1_0 a1_1 a1_2 a1_3).bind fun t143 => (if t143 = true then ((mono_zipped_73.f a0_0 a0_1 a0_2 a0_3 a1_0 a1_1 a1_2 a1_3).bind fun bt144 => (some (bt144.1 == 0 && (bt144.2.1 == 0 && (bt144.2.2.1 == 0 && (bt144.2.2.2 == 0)))))) else (some false))) else (some false)) = some r := H
  have A3 := Aside0.mk A30
  clear A30
  by_cases c4 : t142 = true
  · subst c4
    have H1 : ((mono_May.f a1_0 a1_1 a1_2 a1_3).bind fun t143 => (if t143 = true then ((mono_zipped_73.f a0_0 a0_1 a0_2 a0_3 a1_0 a1_1 a1_2 a1_3).bind fun bt144 => (some (bt144.1 == 0 && (bt144.2.1 == 0 && (bt144.2.2.1 == 0 && (bt144.2.2.2 == 0)))))) else (some false))) = some r := by rw [if_pos rfl] at H; exact H
    clear H
    have H := H1
    clear H1
    replace H := Option.bind_eq_some_iff.mp H
    obtain ⟨t143, A50, H⟩ := H
    replace H : (if t143 = true then ((mono_zipped_73.f a0_0 a0_1 a0_2 a0_3 a1_0 a1_1 a1_2 a1_3).bind fun bt144 => (some (bt144.1 == 0 && (bt144.2.1 == 0 && (bt144.2.2.1 == 0 && (bt144.2.2.2 == 0)))))) else (some false)) = some r := H
    have A5 := Aside0.mk A50
    clear A50
    by_cases c6 : t143 = true
    · subst c6
      have H1 : ((mono_zipped_73.f a0_0 a0_1 a0_2 a0_3 a1_0 a1_1 a1_2 a1_3).bind fun bt144 => (some (bt144.1 == 0 && (bt144.2.1 == 0 && (bt144.2.2.1 == 0 && (bt144.2.2.2 == 0)))))) = some r := by rw [if_pos rfl] at H; exact H
      clear H
      have H := H1
      clear H1
      replace H := Option.bind_eq_some_iff.mp H
      obtain ⟨⟨t144, t145, t146, t147⟩, A70, H⟩ := H
      replace H : (some (t144 == 0 && (t145 == 0 && (t146 == 0 && (t147 == 0))))) = some r := H
      have A7 := Aside0.mk A70
      clear A70
      obtain rfl := Option.some.inj H
      go_enter Try.func38, Try.ntmps38
      go_wp2_with (first | ((with_reducible refine gate_dst (N := 2) rfl ?_); refine box_event ?hg (N := 2) ?hd (cs := #[.int .i64 a0_0, .int .i64 a0_1, .int .i64 a0_2, .int .i64 a0_3]) (t := 24) ?hr ?_; (case hd => rfl); (case hg => rfl); (case hr => first | (go_simp; done) | (go_simp; rfl)); intro gb140 hg w8 hbox hb; have n0_ := Aside0.mk (below_step (by repeat (first | (with_reducible first | exact HB.out | apply below_alloc | apply pw_below_drewN | apply below_drew1) | exact HB.out)) hb); have n1_ := Aside0.mk (hbox); have n2_ := Aside0.mk ((by rw [hg]; exact (below_size (by repeat (first | (with_reducible first | exact HB.out | apply below_alloc | apply pw_below_drewN | apply below_drew1) | exact HB.out))) : w.heap.size ≤ gb140)); have n3_ := Aside0.mk ((by rw [hg]; exact (below_size (by repeat (first | (with_reducible first | exact HB.out | apply below_alloc | apply pw_below_drewN | apply below_drew1) | exact HB.out))) : w.heap.size ≤ gb140)); clear HB; have HB := n0_; have BK140 := n1_; have GW140 := n2_; have GE140 := n3_; clear n0_ n1_ n2_ n3_; clear hb hbox hg) | ((with_reducible refine gate_dst (N := 3) rfl ?_); refine box_event ?hg (N := 3) ?hd (cs := #[.int .i64 a1_0, .int .i64 a1_1, .int .i64 a1_2, .int .i64 a1_3]) (t := 24) ?hr ?_; (case hd => rfl); (case hg => rfl); (case hr => first | (go_simp; done) | (go_simp; rfl)); intro gb141 hg w9 hbox hb; have n0_ := Aside0.mk (blk_below (g := gb140) (o := .cells #[.int .i64 a0_0, .int .i64 a0_1, .int .i64 a0_2, .int .i64 a0_3] 24 (0, 0)) (by (with_reducible repeat (first | refine blk_drewN ?_ _ | refine blk_drew ?_ | refine blk_alloc ?_ _)); exact BK140.out) hb); have n1_ := Aside0.mk (below_step (by repeat (first | (with_reducible first | exact HB.out | apply below_alloc | apply pw_below_drewN | apply below_drew1 | refine below_set ?_ GE140.out) | exact HB.out)) hb); have n2_ := Aside0.mk (hbox); have n3_ := Aside0.mk ((by rw [hg]; exact (below_size (by repeat (first | (with_reducible first | exact HB.out | apply below_alloc | apply pw_below_drewN | apply below_drew1 | refine below_set ?_ GE140.out) | exact HB.out))) : w.heap.size ≤ gb141)); have n4_ := Aside0.mk ((by rw [hg]; exact (below_size (by repeat (first | (with_reducible first | exact HB.out | apply below_alloc | apply pw_below_drewN | apply below_drew1 | refine below_set ?_ GE140.out) | exact HB.out))) : w.heap.size ≤ gb141)); have n5_ := Aside0.mk ((by rw [hg]; exact Nat.ne_of_lt (blk_lt (g := gb140) (o := .cells #[.int .i64 a0_0, .int .i64 a0_1, .int .i64 a0_2, .int .i64 a0_3] 24 (0, 0)) (by (with_reducible repeat (first | refine blk_drewN ?_ _ | refine blk_drew ?_ | refine blk_alloc ?_ _)); exact BK140.out)) : gb140 ≠ gb141)); have n6_ := Aside0.mk ((by rw [hg]; exact Nat.ne_of_gt (blk_lt (g := gb140) (o := .cells #[.int .i64 a0_0, .int .i64 a0_1, .int .i64 a0_2, .int .i64 a0_3] 24 (0, 0)) (by (with_reducible repeat (first | refine blk_drewN ?_ _ | refine blk_drew ?_ | refine blk_alloc ?_ _)); exact BK140.out)) : gb141 ≠ gb140)); clear BK140; clear HB; have BK140 := n0_; have HB := n1_; have BK141 := n2_; have GW141 := n3_; have GE141 := n4_; have NB140_141 := n5_; have NB141_140 := n6_; clear n0_ n1_ n2_ n3_ n4_ n5_ n6_; clear hb hbox hg; have hnb10 := NB140_141.out; have hnc10 := NB141_140.out; have hcz11_0 : w9.cell? ⟨gb140, 0, none⟩ = some (.int .i64 a0_0) := (blk_cell BK140.out 0).trans rfl; have hcz11_1 : w9.cell? ⟨gb140, 1, none⟩ = some (.int .i64 a0_1) := (blk_cell BK140.out 1).trans rfl; have hcz11_2 : w9.cell? ⟨gb140, 2, none⟩ = some (.int .i64 a0_2) := (blk_cell BK140.out 2).trans rfl; have hcz11_3 : w9.cell? ⟨gb140, 3, none⟩ = some (.int .i64 a0_3) := (blk_cell BK140.out 3).trans rfl; have hfz11_0 := blk_frozen BK140.out 0; have hfz11_1 := blk_frozen BK140.out 1; have hfz11_2 := blk_frozen BK140.out 2; have hfz11_3 := blk_frozen BK140.out 3) | ((with_reducible refine gate_callee (f := 33) rfl ?_); refine goesL_ (some 6) rfl rfl Try.func33 (by kernel_rfl) rfl #[.agg #[.int .i64 a0_0, .int .i64 a0_1, .int .i64 a0_2, .int .i64 a0_3]] rfl (by (try simp only [List.map_toArray, List.map_cons, List.map_nil]); first | done | rfl | (simp only [List.length_drop, List.length_take]; rfl)) ?_; (with_reducible refine (mono_May.calls a0_0 a0_1 a0_2 a0_3 true _ A3.out).mono ?_); rintro e w12 ⟨rfl, hb⟩; refine ⟨_, rfl, ?_⟩; have n0_ := Aside0.mk (blk_below (g := gb140) (o := .cells #[.int .i64 a0_0, .int .i64 a0_1, .int .i64 a0_2, .int .i64 a0_3] 24 (0, 0)) (by (with_reducible repeat (first | refine blk_drewN ?_ _ | refine blk_drew ?_ | refine blk_alloc ?_ _)); exact BK140.out) hb); have n1_ := Aside0.mk (blk_below (g := gb141) (o := .cells #[.int .i64 a1_0, .int .i64 a1_1, .int .i64 a1_2, .int .i64 a1_3] 24 (0, 0)) (by (with_reducible repeat (first | refine blk_drewN ?_ _ | refine blk_drew ?_ | refine blk_alloc ?_ _)); exact BK141.out) hb); have n2_ := Aside0.mk (below_step (by repeat (first | (with_reducible first | exact HB.out | apply below_alloc | apply pw_below_drewN | apply below_drew1 | refine below_set ?_ GE140.out | refine below_set ?_ GE141.out) | exact HB.out)) hb); clear BK140; clear BK141; clear HB; have BK140 := n0_; have BK141 := n1_; have HB := n2_; clear n0_ n1_ n2_; (try clear hb); (try clear hb2); (try clear hk); (try clear hi); have hcz13_0 : w12.cell? ⟨gb141, 0, none⟩ = some (.int .i64 a1_0) := (blk_cell BK141.out 0).trans rfl; have hcz13_1 : w12.cell? ⟨gb141, 1, none⟩ = some (.int .i64 a1_1) := (blk_cell BK141.out 1).trans rfl; have hcz13_2 : w12.cell? ⟨gb141, 2, none⟩ = some (.int .i64 a1_2) := (blk_cell BK141.out 2).trans rfl; have hcz13_3 : w12.cell? ⟨gb141, 3, none⟩ = some (.int .i64 a1_3) := (blk_cell BK141.out 3).trans rfl; have hfz13_0 := blk_frozen BK141.out 0; have hfz13_1 := blk_frozen BK141.out 1; have hfz13_2 := blk_frozen BK141.out 2; have hfz13_3 := blk_frozen BK141.out 3) | (go_at_call 33; (with_reducible refine (mono_May.calls a1_0 a1_1 a1_2 a1_3 true _ A5.out).mono ?_); rintro e w14 ⟨rfl, hb⟩; have n0_ := Aside0.mk (blk_below (g := gb140) (o := .cells #[.int .i64 a0_0, .int .i64 a0_1, .int .i64 a0_2, .int .i64 a0_3] 24 (0, 0)) (by (with_reducible repeat (first | refine blk_drewN ?_ _ | refine blk_drew ?_ | refine blk_alloc ?_ _)); exact BK140.out) hb); have n1_ := Aside0.mk (blk_below (g := gb141) (o := .cells #[.int .i64 a1_0, .int .i64 a1_1, .int .i64 a1_2, .int .i64 a1_3] 24 (0, 0)) (by (with_reducible repeat (first | refine blk_drewN ?_ _ | refine blk_drew ?_ | refine blk_alloc ?_ _)); exact BK141.out) hb); have n2_ := Aside0.mk (below_step (by repeat (first | (with_reducible first | exact HB.out | apply below_alloc | apply pw_below_drewN | apply below_drew1 | refine below_set ?_ GE140.out | refine below_set ?_ GE141.out) | exact HB.out)) hb); clear BK140; clear BK141; clear HB; have BK140 := n0_; have BK141 := n1_; have HB := n2_; clear n0_ n1_ n2_; (try clear hb); (try clear hb2); (try clear hk); (try clear hi); have hcz15_0 : w14.cell? ⟨gb140, 0, none⟩ = some (.int .i64 a0_0) := (blk_cell BK140.out 0).trans rfl; have hcz15_1 : w14.cell? ⟨gb140, 1, none⟩ = some (.int .i64 a0_1) := (blk_cell BK140.out 1).trans rfl; have hcz15_2 : w14.cell? ⟨gb140, 2, none⟩ = some (.int .i64 a0_2) := (blk_cell BK140.out 2).trans rfl; have hcz15_3 : w14.cell? ⟨gb140, 3, none⟩ = some (.int .i64 a0_3) := (blk_cell BK140.out 3).trans rfl; have hfz15_0 := blk_frozen BK140.out 0; have hfz15_1 := blk_frozen BK140.out 1; have hfz15_2 := blk_frozen BK140.out 2; have hfz15_3 := blk_frozen BK140.out 3; have hcz16_0 : w14.cell? ⟨gb141, 0, none⟩ = some (.int .i64 a1_0) := (blk_cell BK141.out 0).trans rfl; have hcz16_1 : w14.cell? ⟨gb141, 1, none⟩ = some (.int .i64 a1_1) := (blk_cell BK141.out 1).trans rfl; have hcz16_2 : w14.cell? ⟨gb141, 2, none⟩ = some (.int .i64 a1_2) := (blk_cell BK141.out 2).trans rfl; have hcz16_3 : w14.cell? ⟨gb141, 3, none⟩ = some (.int .i64 a1_3) := (blk_cell BK141.out 3).trans rfl; have hfz16_0 := blk_frozen BK141.out 0; have hfz16_1 := blk_frozen BK141.out 1; have hfz16_2 := blk_frozen BK141.out 2; have hfz16_3 := blk_frozen BK141.out 3) | (go_at_call 57; (with_reducible refine (mono_zipped_73.calls a0_0 a0_1 a0_2 a0_3 a1_0 a1_1 a1_2 a1_3  t144 t145 t146 t147 _ A7.out).mono ?_); rintro e w17 ⟨rfl, hb⟩; have n0_ := Aside0.mk (blk_below (g := gb140) (o := .cells #[.int .i64 a0_0, .int .i64 a0_1, .int .i64 a0_2, .int .i64 a0_3] 24 (0, 0)) (by (with_reducible repeat (first | refine blk_drewN ?_ _ | refine blk_drew ?_ | refine blk_alloc ?_ _)); exact BK140.out) hb); have n1_ := Aside0.mk (blk_below (g := gb141) (o := .cells #[.int .i64 a1_0, .int .i64 a1_1, .int .i64 a1_2, .int .i64 a1_3] 24 (0, 0)) (by (with_reducible repeat (first | refine blk_drewN ?_ _ | refine blk_drew ?_ | refine blk_alloc ?_ _)); exact BK141.out) hb); have n2_ := Aside0.mk (below_step (by repeat (first | (with_reducible first | exact HB.out | apply below_alloc | apply pw_below_drewN | apply below_drew1 | refine below_set ?_ GE140.out | refine below_set ?_ GE141.out) | exact HB.out)) hb); clear BK140; clear BK141; clear HB; have BK140 := n0_; have BK141 := n1_; have HB := n2_; clear n0_ n1_ n2_; (try clear hb); (try clear hb2); (try clear hk); (try clear hi)))
      go_ret
      exact ⟨by first | rfl | (simp [errW_none, errW_some] <;> rfl) | (simp [*, errW_none, errW_some] <;> rfl), by repeat (first | (with_reducible first | exact HB.out | apply below_alloc | apply pw_below_drewN | apply below_drew1 | refine below_set ?_ GE140.out | refine below_set ?_ GE141.out) | exact HB.out)⟩
    · replace c6 := Bool.eq_false_iff.mpr c6
      subst c6
      have H1 : (some false) = some r := by rw [if_neg (show ¬ (false = true) by decide)] at H; exact H
      clear H
      have H := H1
      clear H1
      obtain rfl := Option.some.inj H
      go_enter Try.func38, Try.ntmps38
      go_wp2_with (first | ((with_reducible refine gate_dst (N := 2) rfl ?_); refine box_event ?hg (N := 2) ?hd (cs := #[.int .i64 a0_0, .int .i64 a0_1, .int .i64 a0_2, .int .i64 a0_3]) (t := 24) ?hr ?_; (case hd => rfl); (case hg => rfl); (case hr => first | (go_simp; done) | (go_simp; rfl)); intro gb140 hg w18 hbox hb; have n0_ := Aside0.mk (below_step (by repeat (first | (with_reducible first | exact HB.out | apply below_alloc | apply pw_below_drewN | apply below_drew1) | exact HB.out)) hb); have n1_ := Aside0.mk (hbox); have n2_ := Aside0.mk ((by rw [hg]; exact (below_size (by repeat (first | (with_reducible first | exact HB.out | apply below_alloc | apply pw_below_drewN | apply below_drew1) | exact HB.out))) : w.heap.size ≤ gb140)); have n3_ := Aside0.mk ((by rw [hg]; exact (below_size (by repeat (first | (with_reducible first | exact HB.out | apply below_alloc | apply pw_below_drewN | apply below_drew1) | exact HB.out))) : w.heap.size ≤ gb140)); clear HB; have HB := n0_; have BK140 := n1_; have GW140 := n2_; have GE140 := n3_; clear n0_ n1_ n2_ n3_; clear hb hbox hg) | ((with_reducible refine gate_dst (N := 3) rfl ?_); refine box_event ?hg (N := 3) ?hd (cs := #[.int .i64 a1_0, .int .i64 a1_1, .int .i64 a1_2, .int .i64 a1_3]) (t := 24) ?hr ?_; (case hd => rfl); (case hg => rfl); (case hr => first | (go_simp; done) | (go_simp; rfl)); intro gb141 hg w19 hbox hb; have n0_ := Aside0.mk (blk_below (g := gb140) (o := .cells #[.int .i64 a0_0, .int .i64 a0_1, .int .i64 a0_2, .int .i64 a0_3] 24 (0, 0)) (by (with_reducible repeat (first | refine blk_drewN ?_ _ | refine blk_drew ?_ | refine blk_alloc ?_ _)); exact BK140.out) hb); have n1_ := Aside0.mk (below_step (by repeat (first | (with_reducible first | exact HB.out | apply below_alloc | apply pw_below_drewN | apply below_drew1 | refine below_set ?_ GE140.out) | exact HB.out)) hb); have n2_ := Aside0.mk (hbox); have n3_ := Aside0.mk ((by rw [hg]; exact (below_size (by repeat (first | (with_reducible first | exact HB.out | apply below_alloc | apply pw_below_drewN | apply below_drew1 | refine below_set ?_ GE140.out) | exact HB.out))) : w.heap.size ≤ gb141)); have n4_ := Aside0.mk ((by rw [hg]; exact (below_size (by repeat (first | (with_reducible first | exact HB.out | apply below_alloc | apply pw_below_drewN | apply below_drew1 | refine below_set ?_ GE140.out) | exact HB.out))) : w.heap.size ≤ gb141)); have n5_ := Aside0.mk ((by rw [hg]; exact Nat.ne_of_lt (blk_lt (g := gb140) (o := .cells #[.int .i64 a0_0, .int .i64 a0_1, .int .i64 a0_2, .int .i64 a0_3] 24 (0, 0)) (by (with_reducible repeat (first | refine blk_drewN ?_ _ | refine blk_drew ?_ | refine blk_alloc ?_ _)); exact BK140.out)) : gb140 ≠ gb141)); have n6_ := Aside0.mk ((by rw [hg]; exact Nat.ne_of_gt (blk_lt (g := gb140) (o := .cells #[.int .i64 a0_0, .int .i64 a0_1, .int .i64 a0_2, .int .i64 a0_3] 24 (0, 0)) (by (with_reducible repeat (first | refine blk_drewN ?_ _ | refine blk_drew ?_ | refine blk_alloc ?_ _)); exact BK140.out)) : gb141 ≠ gb140)); clear BK140; clear HB; have BK140 := n0_; have HB := n1_; have BK141 := n2_; have GW141 := n3_; have GE141 := n4_; have NB140_141 := n5_; have NB141_140 := n6_; clear n0_ n1_ n2_ n3_ n4_ n5_ n6_; clear hb hbox hg; have hnb20 := NB140_141.out; have hnc20 := NB141_140.out; have hcz21_0 : w19.cell? ⟨gb140, 0, none⟩ = some (.int .i64 a0_0) := (blk_cell BK140.out 0).trans rfl; have hcz21_1 : w19.cell? ⟨gb140, 1, none⟩ = some (.int .i64 a0_1) := (blk_cell BK140.out 1).trans rfl; have hcz21_2 : w19.cell? ⟨gb140, 2, none⟩ = some (.int .i64 a0_2) := (blk_cell BK140.out 2).trans rfl; have hcz21_3 : w19.cell? ⟨gb140, 3, none⟩ = some (.int .i64 a0_3) := (blk_cell BK140.out 3).trans rfl; have hfz21_0 := blk_frozen BK140.out 0; have hfz21_1 := blk_frozen BK140.out 1; have hfz21_2 := blk_frozen BK140.out 2; have hfz21_3 := blk_frozen BK140.out 3) | ((with_reducible refine gate_callee (f := 33) rfl ?_); refine goesL_ (some 6) rfl rfl Try.func33 (by kernel_rfl) rfl #[.agg #[.int .i64 a0_0, .int .i64 a0_1, .int .i64 a0_2, .int .i64 a0_3]] rfl (by (try simp only [List.map_toArray, List.map_cons, List.map_nil]); first | done | rfl | (simp only [List.length_drop, List.length_take]; rfl)) ?_; (with_reducible refine (mono_May.calls a0_0 a0_1 a0_2 a0_3 true _ A3.out).mono ?_); rintro e w22 ⟨rfl, hb⟩; refine ⟨_, rfl, ?_⟩; have n0_ := Aside0.mk (blk_below (g := gb140) (o := .cells #[.int .i64 a0_0, .int .i64 a0_1, .int .i64 a0_2, .int .i64 a0_3] 24 (0, 0)) (by (with_reducible repeat (first | refine blk_drewN ?_ _ | refine blk_drew ?_ | refine blk_alloc ?_ _)); exact BK140.out) hb); have n1_ := Aside0.mk (blk_below (g := gb141) (o := .cells #[.int .i64 a1_0, .int .i64 a1_1, .int .i64 a1_2, .int .i64 a1_3] 24 (0, 0)) (by (with_reducible repeat (first | refine blk_drewN ?_ _ | refine blk_drew ?_ | refine blk_alloc ?_ _)); exact BK141.out) hb); have n2_ := Aside0.mk (below_step (by repeat (first | (with_reducible first | exact HB.out | apply below_alloc | apply pw_below_drewN | apply below_drew1 | refine below_set ?_ GE140.out | refine below_set ?_ GE141.out) | exact HB.out)) hb); clear BK140; clear BK141; clear HB; have BK140 := n0_; have BK141 := n1_; have HB := n2_; clear n0_ n1_ n2_; (try clear hb); (try clear hb2); (try clear hk); (try clear hi); have hcz23_0 : w22.cell? ⟨gb141, 0, none⟩ = some (.int .i64 a1_0) := (blk_cell BK141.out 0).trans rfl; have hcz23_1 : w22.cell? ⟨gb141, 1, none⟩ = some (.int .i64 a1_1) := (blk_cell BK141.out 1).trans rfl; have hcz23_2 : w22.cell? ⟨gb141, 2, none⟩ = some (.int .i64 a1_2) := (blk_cell BK141.out 2).trans rfl; have hcz23_3 : w22.cell? ⟨gb141, 3, none⟩ = some (.int .i64 a1_3) := (blk_cell BK141.out 3).trans rfl; have hfz23_0 := blk_frozen BK141.out 0; have hfz23_1 := blk_frozen BK141.out 1; have hfz23_2 := blk_frozen BK141.out 2; have hfz23_3 := blk_frozen BK141.out 3) | (go_at_call 33; (with_reducible refine (mono_May.calls a1_0 a1_1 a1_2 a1_3 false _ A5.out).mono ?_); rintro e w24 ⟨rfl, hb⟩; have n0_ := Aside0.mk (blk_below (g := gb140) (o := .cells #[.int .i64 a0_0, .int .i64 a0_1, .int .i64 a0_2, .int .i64 a0_3] 24 (0, 0)) (by (with_reducible repeat (first | refine blk_drewN ?_ _ | refine blk_drew ?_ | refine blk_alloc ?_ _)); exact BK140.out) hb); have n1_ := Aside0.mk (blk_below (g := gb141) (o := .cells #[.int .i64 a1_0, .int .i64 a1_1, .int .i64 a1_2, .int .i64 a1_3] 24 (0, 0)) (by (with_reducible repeat (first | refine blk_drewN ?_ _ | refine blk_drew ?_ | refine blk_alloc ?_ _)); exact BK141.out) hb); have n2_ := Aside0.mk (below_step (by repeat (first | (with_reducible first | exact HB.out | apply below_alloc | apply pw_below_drewN | apply below_drew1 | refine below_set ?_ GE140.out | refine below_set ?_ GE141.out) | exact HB.out)) hb); clear BK140; clear BK141; clear HB; have BK140 := n0_; have BK141 := n1_; have HB := n2_; clear n0_ n1_ n2_; (try clear hb); (try clear hb2); (try clear hk); (try clear hi)))
      go_ret
      exact ⟨by first | rfl | (simp [errW_none, errW_some] <;> rfl) | (simp [*, errW_none, errW_some] <;> rfl), by repeat (first | (with_reducible first | exact HB.out | apply below_alloc | apply pw_below_drewN | apply below_drew1 | refine below_set ?_ GE140.out | refine below_set ?_ GE141.out) | exact HB.out)⟩
  · replace c4 := Bool.eq_false_iff.mpr c4
    subst c4
    have H1 : (some false) = some r := by rw [if_neg (show ¬ (false = true) by decide)] at H; exact H
    clear H
    have H := H1
    clear H1
    obtain rfl := Option.some.inj H
    go_enter Try.func38, Try.ntmps38
    go_wp2_with (first | ((with_reducible refine gate_dst (N := 2) rfl ?_); refine box_event ?hg (N := 2) ?hd (cs := #[.int .i64 a0_0, .int .i64 a0_1, .int .i64 a0_2, .int .i64 a0_3]) (t := 24) ?hr ?_; (case hd => rfl); (case hg => rfl); (case hr => first | (go_simp; done) | (go_simp; rfl)); intro gb140 hg w25 hbox hb; have n0_ := Aside0.mk (below_step (by repeat (first | (with_reducible first | exact HB.out | apply below_alloc | apply pw_below_drewN | apply below_drew1) | exact HB.out)) hb); have n1_ := Aside0.mk (hbox); have n2_ := Aside0.mk ((by rw [hg]; exact (below_size (by repeat (first | (with_reducible first | exact HB.out | apply below_alloc | apply pw_below_drewN | apply below_drew1) | exact HB.out))) : w.heap.size ≤ gb140)); have n3_ := Aside0.mk ((by rw [hg]; exact (below_size (by repeat (first | (with_reducible first | exact HB.out | apply below_alloc | apply pw_below_drewN | apply below_drew1) | exact HB.out))) : w.heap.size ≤ gb140)); clear HB; have HB := n0_; have BK140 := n1_; have GW140 := n2_; have GE140 := n3_; clear n0_ n1_ n2_ n3_; clear hb hbox hg) | ((with_reducible refine gate_dst (N := 3) rfl ?_); refine box_event ?hg (N := 3) ?hd (cs := #[.int .i64 a1_0, .int .i64 a1_1, .int .i64 a1_2, .int .i64 a1_3]) (t := 24) ?hr ?_; (case hd => rfl); (case hg => rfl); (case hr => first | (go_simp; done) | (go_simp; rfl)); intro gb141 hg w26 hbox hb; have n0_ := Aside0.mk (blk_below (g := gb140) (o := .cells #[.int .i64 a0_0, .int .i64 a0_1, .int .i64 a0_2, .int .i64 a0_3] 24 (0, 0)) (by (with_reducible repeat (first | refine blk_drewN ?_ _ | refine blk_drew ?_ | refine blk_alloc ?_ _)); exact BK140.out) hb); have n1_ := Aside0.mk (below_step (by repeat (first | (with_reducible first | exact HB.out | apply below_alloc | apply pw_below_drewN | apply below_drew1 | refine below_set ?_ GE140.out) | exact HB.out)) hb); have n2_ := Aside0.mk (hbox); have n3_ := Aside0.mk ((by rw [hg]; exact (below_size (by repeat (first | (with_reducible first | exact HB.out | apply below_alloc | apply pw_below_drewN | apply below_drew1 | refine below_set ?_ GE140.out) | exact HB.out))) : w.heap.size ≤ gb141)); have n4_ := Aside0.mk ((by rw [hg]; exact (below_size (by repeat (first | (with_reducible first | exact HB.out | apply below_alloc | apply pw_below_drewN | apply below_drew1 | refine below_set ?_ GE140.out) | exact HB.out))) : w.heap.size ≤ gb141)); have n5_ := Aside0.mk ((by rw [hg]; exact Nat.ne_of_lt (blk_lt (g := gb140) (o := .cells #[.int .i64 a0_0, .int .i64 a0_1, .int .i64 a0_2, .int .i64 a0_3] 24 (0, 0)) (by (with_reducible repeat (first | refine blk_drewN ?_ _ | refine blk_drew ?_ | refine blk_alloc ?_ _)); exact BK140.out)) : gb140 ≠ gb141)); have n6_ := Aside0.mk ((by rw [hg]; exact Nat.ne_of_gt (blk_lt (g := gb140) (o := .cells #[.int .i64 a0_0, .int .i64 a0_1, .int .i64 a0_2, .int .i64 a0_3] 24 (0, 0)) (by (with_reducible repeat (first | refine blk_drewN ?_ _ | refine blk_drew ?_ | refine blk_alloc ?_ _)); exact BK140.out)) : gb141 ≠ gb140)); clear BK140; clear HB; have BK140 := n0_; have HB := n1_; have BK141 := n2_; have GW141 := n3_; have GE141 := n4_; have NB140_141 := n5_; have NB141_140 := n6_; clear n0_ n1_ n2_ n3_ n4_ n5_ n6_; clear hb hbox hg; have hnb27 := NB140_141.out; have hnc27 := NB141_140.out; have hcz28_0 : w26.cell? ⟨gb140, 0, none⟩ = some (.int .i64 a0_0) := (blk_cell BK140.out 0).trans rfl; have hcz28_1 : w26.cell? ⟨gb140, 1, none⟩ = some (.int .i64 a0_1) := (blk_cell BK140.out 1).trans rfl; have hcz28_2 : w26.cell? ⟨gb140, 2, none⟩ = some (.int .i64 a0_2) := (blk_cell BK140.out 2).trans rfl; have hcz28_3 : w26.cell? ⟨gb140, 3, none⟩ = some (.int .i64 a0_3) := (blk_cell BK140.out 3).trans rfl; have hfz28_0 := blk_frozen BK140.out 0; have hfz28_1 := blk_frozen BK140.out 1; have hfz28_2 := blk_frozen BK140.out 2; have hfz28_3 := blk_frozen BK140.out 3) | ((with_reducible refine gate_callee (f := 33) rfl ?_); refine goesL_ (some 6) rfl rfl Try.func33 (by kernel_rfl) rfl #[.agg #[.int .i64 a0_0, .int .i64 a0_1, .int .i64 a0_2, .int .i64 a0_3]] rfl (by (try simp only [List.map_toArray, List.map_cons, List.map_nil]); first | done | rfl | (simp only [List.length_drop, List.length_take]; rfl)) ?_; (with_reducible refine (mono_May.calls a0_0 a0_1 a0_2 a0_3 false _ A3.out).mono ?_); rintro e w29 ⟨rfl, hb⟩; refine ⟨_, rfl, ?_⟩; have n0_ := Aside0.mk (blk_below (g := gb140) (o := .cells #[.int .i64 a0_0, .int .i64 a0_1, .int .i64 a0_2, .int .i64 a0_3] 24 (0, 0)) (by (with_reducible repeat (first | refine blk_drewN ?_ _ | refine blk_drew ?_ | refine blk_alloc ?_ _)); exact BK140.out) hb); have n1_ := Aside0.mk (blk_below (g := gb141) (o := .cells #[.int .i64 a1_0, .int .i64 a1_1, .int .i64 a1_2, .int .i64 a1_3] 24 (0, 0)) (by (with_reducible repeat (first | refine blk_drewN ?_ _ | refine blk_drew ?_ | refine blk_alloc ?_ _)); exact BK141.out) hb); have n2_ := Aside0.mk (below_step (by repeat (first | (with_reducible first | exact HB.out | apply below_alloc | apply pw_below_drewN | apply below_drew1 | refine below_set ?_ GE140.out | refine below_set ?_ GE141.out) | exact HB.out)) hb); clear BK140; clear BK141; clear HB; have BK140 := n0_; have BK141 := n1_; have HB := n2_; clear n0_ n1_ n2_; (try clear hb); (try clear hb2); (try clear hk); (try clear hi)))
    go_ret
    exact ⟨by first | rfl | (simp [errW_none, errW_some] <;> rfl) | (simp [*, errW_none, errW_some] <;> rfl), by repeat (first | (with_reducible first | exact HB.out | apply below_alloc | apply pw_below_drewN | apply below_drew1 | refine below_set ?_ GE140.out | refine below_set ?_ GE141.out) | exact HB.out)⟩

/-! ### syzygyref08_Coprime: function 39 -/
def hit8 (x y : Int) : Bool := decide (x > 0) && decide (y > 0)
def cop8 (x0 x1 x2 x3 y0 y1 y2 y3 : Int) : Bool := !(hit8 x0 y0 || hit8 x1 y1 || hit8 x2 y2 || hit8 x3 y3)
def at8 (x0 x1 x2 x3 : Int) (k : Nat) : Int := [x0, x1, x2, x3].getD k 0
theorem cell8 {g : Nat} {x0 x1 x2 x3 : Int} {t : TypeId} {w : World} (hb : w.heap[g]? = some (.cells #[.int .i64 x0, .int .i64 x1, .int .i64 x2, .int .i64 x3] t (0, 0))) {k : Nat} (hk : k < 4) : w.cell? ⟨g, k, none⟩ = some (.int .i64 (at8 x0 x1 x2 x3 k)) := by
  rw [blk_cell hb k]
  match k, hk with
  | 0, _ => rfl
  | 1, _ => rfl
  | 2, _ => rfl
  | 3, _ => rfl
def syzygyref08_Coprime.v (x0 x1 x2 x3 y0 y1 y2 y3 : Int) : Bool := cond (syzygyref08_May.v x0 x1 x2 x3) (cond (syzygyref08_May.v y0 y1 y2 y3) (cop8 x0 x1 x2 x3 y0 y1 y2 y3) false) false
theorem syzygyref08_Coprime.none_ {x0 x1 x2 x3 y0 y1 y2 y3 : Int} (h : ∀ j : Nat, j < 4 → hit8 (at8 x0 x1 x2 x3 j) (at8 y0 y1 y2 y3 j) = false) : cop8 x0 x1 x2 x3 y0 y1 y2 y3 = true := by
  unfold cop8
  have h0 := h 0 (by decide); have h1 := h 1 (by decide); have h2 := h 2 (by decide); have h3 := h 3 (by decide)
  simp only [at8, List.getD_cons_zero, List.getD_cons_succ] at h0 h1 h2 h3
  rw [h0, h1, h2, h3]; rfl
theorem syzygyref08_Coprime.some_ {x0 x1 x2 x3 y0 y1 y2 y3 : Int} {j : Nat} (hj : j < 4) (h : hit8 (at8 x0 x1 x2 x3 j) (at8 y0 y1 y2 y3 j) = true) : cop8 x0 x1 x2 x3 y0 y1 y2 y3 = false := by
  unfold cop8
  match j, hj with
  | 0, _ => have h : hit8 x0 y0 = true := h; rw [h]; simp
  | 1, _ => have h : hit8 x1 y1 = true := h; rw [h]; simp
  | 2, _ => have h : hit8 x2 y2 = true := h; rw [h]; simp
  | 3, _ => have h : hit8 x3 y3 = true := h; rw [h]; simp
set_option maxHeartbeats 4000000 in
theorem syzygyref08_Coprime.calls_ (x0 x1 x2 x3 y0 y1 y2 y3 : Int) (w : World) : Calls Try.prog 39 #[.agg #[.int .i64 x0, .int .i64 x1, .int .i64 x2, .int .i64 x3], .agg #[.int .i64 y0, .int .i64 y1, .int .i64 y2, .int .i64 y3]] w fun e w' => e = .returned (.bool (syzygyref08_Coprime.v x0 x1 x2 x3 y0 y1 y2 y3)) ∧ Below w.heap.size w w' := by
  unfold syzygyref08_Coprime.v
  have HM := Aside0.mk (syzygyref08_May.calls_ x0 x1 x2 x3)
  have HN := Aside0.mk (syzygyref08_May.calls_ y0 y1 y2 y3)
  have hA := blk_alloc (blk_new w (.cells #[.int .i64 x0, .int .i64 x1, .int .i64 x2, .int .i64 x3] 24)) (.cells #[.int .i64 y0, .int .i64 y1, .int .i64 y2, .int .i64 y3] 24)
  have hB := blk_new (w.alloc (.cells #[.int .i64 x0, .int .i64 x1, .int .i64 x2, .int .i64 x3] 24)) (.cells #[.int .i64 y0, .int .i64 y1, .int .i64 y2, .int .i64 y3] 24)
  have hD := below_alloc (below_alloc (Below.refl _ w) (.cells #[.int .i64 x0, .int .i64 x1, .int .i64 x2, .int .i64 x3] 24)) (.cells #[.int .i64 y0, .int .i64 y1, .int .i64 y2, .int .i64 y3] 24)
  simp only [World.size_alloc] at hA hB
  have HA := Aside0.mk hA
  have HB := Aside0.mk hB
  have HD := Aside0.mk hD
  clear hA hB hD
  cases hv : syzygyref08_May.v x0 x1 x2 x3 with
  | false =>
    simp only [cond_false]
    go_enter Try.func39, Try.ntmps39
    go_wp2_with fail
    generalize (w.alloc (.cells #[.int .i64 x0, .int .i64 x1, .int .i64 x2, .int .i64 x3] 24)).alloc (.cells #[.int .i64 y0, .int .i64 y1, .int .i64 y2, .int .i64 y3] 24) = v0 at HA HB HD ⊢
    obtain ⟨a0, a1, a2, a3⟩ := cells4 HA.out
    go_wp2_with fail
    refine (HM.out v0).mono ?_
    rw [hv]
    rintro e v1 ⟨rfl, hb⟩
    have HA1 := Aside0.mk (blk_below HA.out hb)
    have HB1 := Aside0.mk (blk_below HB.out hb)
    have HD1 := Aside0.mk (HD.out.trans (hb.mono HD.out.size))
    clear hb hv HM HA HB HD a0 a1 a2 a3
    go_wp2
    go_ret
    exact ⟨rfl, HD1.out⟩
  | true =>
    cases hu : syzygyref08_May.v y0 y1 y2 y3 with
    | false =>
      simp only [cond_true, cond_false]
      go_enter Try.func39, Try.ntmps39
      go_wp2_with fail
      generalize (w.alloc (.cells #[.int .i64 x0, .int .i64 x1, .int .i64 x2, .int .i64 x3] 24)).alloc (.cells #[.int .i64 y0, .int .i64 y1, .int .i64 y2, .int .i64 y3] 24) = v0 at HA HB HD ⊢
      obtain ⟨a0, a1, a2, a3⟩ := cells4 HA.out
      go_wp2_with fail
      refine (HM.out v0).mono ?_
      rw [hv]
      rintro e v1 ⟨rfl, hb⟩
      have HA1 := Aside0.mk (blk_below HA.out hb)
      have HB1 := Aside0.mk (blk_below HB.out hb)
      have HD1 := Aside0.mk (HD.out.trans (hb.mono HD.out.size))
      clear hb hv HM HA HB HD a0 a1 a2 a3
      obtain ⟨b0, b1, b2, b3⟩ := cells4 HB1.out
      go_wp2_with fail
      refine (HN.out v1).mono ?_
      rw [hu]
      rintro e v2 ⟨rfl, hb⟩
      have HA := Aside0.mk (blk_below HA1.out hb)
      have HB := Aside0.mk (blk_below HB1.out hb)
      have HD := Aside0.mk (HD1.out.trans (hb.mono HD1.out.size))
      clear hb hu HN HA1 HB1 HD1 b0 b1 b2 b3
      go_wp2
      go_ret
      exact ⟨rfl, HD.out⟩
    | true =>
      simp only [cond_true]
      go_enter Try.func39, Try.ntmps39
      go_wp2_with fail
      generalize (w.alloc (.cells #[.int .i64 x0, .int .i64 x1, .int .i64 x2, .int .i64 x3] 24)).alloc (.cells #[.int .i64 y0, .int .i64 y1, .int .i64 y2, .int .i64 y3] 24) = v0 at HA HB HD ⊢
      obtain ⟨a0, a1, a2, a3⟩ := cells4 HA.out
      go_wp2_with fail
      refine (HM.out v0).mono ?_
      rw [hv]
      rintro e v1 ⟨rfl, hb⟩
      have HA1 := Aside0.mk (blk_below HA.out hb)
      have HB1 := Aside0.mk (blk_below HB.out hb)
      have HD1 := Aside0.mk (HD.out.trans (hb.mono HD.out.size))
      clear hb hv HM HA HB HD a0 a1 a2 a3
      obtain ⟨b0, b1, b2, b3⟩ := cells4 HB1.out
      go_wp2_with fail
      refine (HN.out v1).mono ?_
      rw [hu]
      rintro e v2 ⟨rfl, hb⟩
      have HA := Aside0.mk (blk_below HA1.out hb)
      have HB := Aside0.mk (blk_below HB1.out hb)
      have HD := Aside0.mk (HD1.out.trans (hb.mono HD1.out.size))
      clear hb hu HN HA1 HB1 HD1 b0 b1 b2 b3
      go_wp2_with fail
      go_loop [5] (fun i => ∃ k : Nat, i = .int .i64 k ∧ Aside0 (k ≤ 4) ∧ Aside0 (∀ j, j < k → hit8 (at8 x0 x1 x2 x3 j) (at8 y0 y1 y2 y3 j) = false)) (fun i => 4 - (intOf i).toNat)
      case atStart => exact ⟨0, rfl, ⟨by omega⟩, ⟨fun j h => by omega⟩⟩
      case round =>
        obtain ⟨k, rfl, hk, hno⟩ := hrel
        by_cases hlt : k < 4
        · have ca := cell8 HA.out hlt
          have cb := cell8 HB.out hlt
          have c5 : (k : Int) < 4 := by omega
          have HH := Aside0.mk (show hit8 (at8 x0 x1 x2 x3 k) (at8 y0 y1 y2 y3 k) = (decide (at8 x0 x1 x2 x3 k > 0) && decide (at8 y0 y1 y2 y3 k > 0)) from rfl)
          have HLT := Aside0.mk hlt
          generalize hx : at8 x0 x1 x2 x3 k = x at ca HH
          generalize hy : at8 y0 y1 y2 y3 k = y at cb HH
          have HX := Aside0.mk hx
          have HY := Aside0.mk hy
          clear hx hy
          cases p : decide (x > 0) with
          | false =>
            go_wp2
            go_round
            case rel => exact ⟨k + 1, by go_num, ⟨by have := HLT.out; omega⟩, ⟨fun j hj => by
              by_cases e : j = k
              · subst e; rw [HX.out, HY.out, HH.out, p]; rfl
              · exact hno.out j (by omega)⟩⟩
            case measure => have := HLT.out; simp [intOf]; omega
          | true =>
            cases q : decide (y > 0) with
            | false =>
              go_wp2
              go_round
              case rel => exact ⟨k + 1, by go_num, ⟨by have := HLT.out; omega⟩, ⟨fun j hj => by
                by_cases e : j = k
                · subst e; rw [HX.out, HY.out, HH.out, p, q]; rfl
                · exact hno.out j (by omega)⟩⟩
              case measure => have := HLT.out; simp [intOf]; omega
            | true =>
              have e_ := Aside0.mk (syzygyref08_Coprime.some_ (x0 := x0) (x1 := x1) (x2 := x2) (x3 := x3) (y0 := y0) (y1 := y1) (y2 := y2) (y3 := y3) (j := k) hlt (by rw [HX.out, HY.out, HH.out, p, q]; rfl))
              go_wp2
              go_ret
              exact ⟨congrArg (fun b => Ending.returned (.bool b)) e_.out.symm, HD.out⟩
        · obtain rfl : k = 4 := by have := hk.out; omega
          have e_ := Aside0.mk (syzygyref08_Coprime.none_ hno.out)
          go_wp2
          go_ret
          exact ⟨congrArg (fun b => Ending.returned (.bool b)) e_.out.symm, HD.out⟩
def syzygyref08_Coprime.f (x0 x1 x2 x3 y0 y1 y2 y3 : Int) : Option Bool := some (syzygyref08_Coprime.v x0 x1 x2 x3 y0 y1 y2 y3)
theorem syzygyref08_Coprime.calls (x0 x1 x2 x3 y0 y1 y2 y3 : Int) (r : Bool) (w : World) (h : syzygyref08_Coprime.f x0 x1 x2 x3 y0 y1 y2 y3 = some r) :
    Calls Try.prog 39 #[.agg #[.int .i64 x0, .int .i64 x1, .int .i64 x2, .int .i64 x3], .agg #[.int .i64 y0, .int .i64 y1, .int .i64 y2, .int .i64 y3]] w fun e w' => e = .returned (.bool r) ∧ Below w.heap.size w w' := by
  obtain rfl := Option.some.inj h
  exact syzygyref08_Coprime.calls_ x0 x1 x2 x3 y0 y1 y2 y3 w

/-! ### syzygyref08_sign: function 75 -/
def syzygyref08_sign.f (a0 : Int) : Option (Int) := if a0 < 0 then (some (-1)) else (if a0 > 0 then (some 1) else (some 0))
set_option maxHeartbeats 8000000 in
set_option maxRecDepth 100000 in
theorem syzygyref08_sign.calls (a0 : Int) (r : Int) (w : World) (h : syzygyref08_sign.f a0 = some r) :
    Calls Try.prog 75 #[.int .i64 a0] w fun e w' => e = .returned (.int .i64 r) ∧ Drawn0 w w' := by
  have H : (if a0 < 0 then (some (-1)) else (if a0 > 0 then (some 1) else (some 0))) = some r := h
  clear h
  by_cases c2 : a0 < 0
  · rw [if_pos c2] at H
    have c2b0 : decide (a0 < 0) = true := decide_eq_true c2
    clear c2
    obtain rfl := Option.some.inj H
    go_enter Try.func75, Try.ntmps75
    go_wp2
    go_ret
    exact ⟨by first | rfl | (simp; done) | (simp [*]; done), by repeat (first | exact Drawn0.refl _ | apply Drawn0.step)⟩
  · rw [if_neg c2] at H
    have c2b0 : decide (a0 < 0) = false := decide_eq_false c2
    clear c2
    by_cases c3 : a0 > 0
    · rw [if_pos c3] at H
      have c3b0 : decide (0 < a0) = true := decide_eq_true c3
      clear c3
      obtain rfl := Option.some.inj H
      go_enter Try.func75, Try.ntmps75
      go_wp2
      go_ret
      exact ⟨by first | rfl | (simp; done) | (simp [*]; done), by repeat (first | exact Drawn0.refl _ | apply Drawn0.step)⟩
    · rw [if_neg c3] at H
      have c3b0 : decide (0 < a0) = false := decide_eq_false c3
      clear c3
      obtain rfl := Option.some.inj H
      go_enter Try.func75, Try.ntmps75
      go_wp2
      go_ret
      exact ⟨by first | rfl | (simp; done) | (simp [*]; done), by repeat (first | exact Drawn0.refl _ | apply Drawn0.step)⟩

end Go.Proofs.Ytmknpclfanblfaa.POMonoTells
