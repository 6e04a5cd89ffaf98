-- Written by a program of this session (pr.py, over the kit's print.py).
import Derived.Test.YtfoickaangjmnaaPOQueueAllx0
import Derived.Test.YtfoickaangjmnaaPOQueueAllx7
import Derived.Test.YtfoickaangjmnaaPOQueueAllx8
namespace Go.Proofs.Ytfoickaangjmnaa.POQueueAll
open Go.RowKit Go.Proofs.YtfoickaangjmnaaN Go.Proofs.YtfoickaangjmnaaW.PrintWords Go.Proofs.YtfoickaangjmnaaW.PrintLast Go.Proofs.YtfoickaangjmnaaW.PrintMore
attribute [local go_sem] max2_int min2_int max_two min_two max_three min_three max_four min_four   -- for this text's walks alone
set_option linter.unusedVariables false
set_option linter.unusedSimpArgs false

/-! ### syzygyref08_Cmp: function 23 -/
def syzygyref08_Cmp.rev (x0 x1 x2 x3 y0 y1 y2 y3 : Int) : Int := cond (x3 != y3) (sgn8 (wrap64 (y3 - x3))) (cond (x2 != y2) (sgn8 (wrap64 (y2 - x2))) (cond (x1 != y1) (sgn8 (wrap64 (y1 - x1))) (cond (x0 != y0) (sgn8 (wrap64 (y0 - x0))) (0))))
def syzygyref08_Cmp.v (o x0 x1 x2 x3 y0 y1 y2 y3 : Int) : Int := cond (syzygyref08_May.v x0 x1 x2 x3) (cond (syzygyref08_May.v y0 y1 y2 y3) (cond (decide (o < 0)) 0 (cond (decide (o > 2)) 0 (cond (o == 0) (syzygyref08_lex.v x0 x1 x2 x3 y0 y1 y2 y3) (cond (syzygyref08_Degree.v x0 x1 x2 x3 != syzygyref08_Degree.v y0 y1 y2 y3) (sgn8 (wrap64 (syzygyref08_Degree.v x0 x1 x2 x3 - syzygyref08_Degree.v y0 y1 y2 y3))) (cond (o == 1) (syzygyref08_lex.v x0 x1 x2 x3 y0 y1 y2 y3) (syzygyref08_Cmp.rev x0 x1 x2 x3 y0 y1 y2 y3)))))) 0) 0
set_option maxHeartbeats 8000000 in
set_option maxRecDepth 100000 in
theorem syzygyref08_Cmp.calls_ (o x0 x1 x2 x3 y0 y1 y2 y3 : Int) (w : World) : Calls Try.prog 23 #[.int .i64 o, .agg #[.int .i64 x0, .int .i64 x1, .int .i64 x2, .int .i64 x3], .agg #[.int .i64 y0, .int .i64 y1, .int .i64 y2, .int .i64 y3]] w fun e w' => e = .returned (.int .i64 (syzygyref08_Cmp.v o x0 x1 x2 x3 y0 y1 y2 y3)) ∧ Below w.heap.size w w' := by
  unfold syzygyref08_Cmp.v
  have HM := Aside0.mk (syzygyref08_May.calls_ x0 x1 x2 x3)
  have HN := Aside0.mk (syzygyref08_May.calls_ y0 y1 y2 y3)
  have HE := Aside0.mk (syzygyref08_Degree.calls_ x0 x1 x2 x3)
  have HF := Aside0.mk (syzygyref08_Degree.calls_ y0 y1 y2 y3)
  have HL := Aside0.mk (syzygyref08_lex.calls_ x0 x1 x2 x3 y0 y1 y2 y3)
  generalize syzygyref08_Degree.v x0 x1 x2 x3 = dx at HE ⊢
  generalize syzygyref08_Degree.v y0 y1 y2 y3 = dy at HF ⊢
  generalize syzygyref08_lex.v x0 x1 x2 x3 y0 y1 y2 y3 = lx at HL ⊢
  have hA := blk_alloc (blk_new w (.cells #[.int .i64 x0, .int .i64 x1, .int .i64 x2, .int .i64 x3] 36)) (.cells #[.int .i64 y0, .int .i64 y1, .int .i64 y2, .int .i64 y3] 36)
  have hB := blk_new (w.alloc (.cells #[.int .i64 x0, .int .i64 x1, .int .i64 x2, .int .i64 x3] 36)) (.cells #[.int .i64 y0, .int .i64 y1, .int .i64 y2, .int .i64 y3] 36)
  have hD := below_alloc (below_alloc (Below.refl _ w) (.cells #[.int .i64 x0, .int .i64 x1, .int .i64 x2, .int .i64 x3] 36)) (.cells #[.int .i64 y0, .int .i64 y1, .int .i64 y2, .int .i64 y3] 36)
  simp only [World.size_alloc] at hA hB
  have HA := Aside0.mk hA
  have HB := Aside0.mk hB
  have HD := Aside0.mk hD
  clear hA hB hD
  cases hv : syzygyref08_May.v x0 x1 x2 x3 with
  | false =>
    simp only [cond_true, cond_false]
    go_enter Try.func23, Try.ntmps23
    go_wp2_with fail
    generalize (w.alloc (.cells #[.int .i64 x0, .int .i64 x1, .int .i64 x2, .int .i64 x3] 36)).alloc (.cells #[.int .i64 y0, .int .i64 y1, .int .i64 y2, .int .i64 y3] 36) = t0 at HA HB HD ⊢
    obtain ⟨a0, a1, a2, a3⟩ := cells4 HA.out
    go_wp2_with fail
    refine (HM.out t0).mono ?_
    rw [hv]
    rintro e t1 ⟨rfl, hb⟩
    have HA1 := Aside0.mk (blk_below HA.out hb)
    have HB1 := Aside0.mk (blk_below HB.out hb)
    have HD1 := Aside0.mk (HD.out.trans (hb.mono HD.out.size))
    clear hb HA HB HD
    clear a0 a1 a2 a3
    go_wp2
    go_ret
    exact ⟨rfl, HD1.out⟩
  | true =>
    cases hu : syzygyref08_May.v y0 y1 y2 y3 with
    | false =>
      simp only [cond_true, cond_false]
      go_enter Try.func23, Try.ntmps23
      go_wp2_with fail
      generalize (w.alloc (.cells #[.int .i64 x0, .int .i64 x1, .int .i64 x2, .int .i64 x3] 36)).alloc (.cells #[.int .i64 y0, .int .i64 y1, .int .i64 y2, .int .i64 y3] 36) = t0 at HA HB HD ⊢
      obtain ⟨a0, a1, a2, a3⟩ := cells4 HA.out
      go_wp2_with fail
      refine (HM.out t0).mono ?_
      rw [hv]
      rintro e t1 ⟨rfl, hb⟩
      have HA1 := Aside0.mk (blk_below HA.out hb)
      have HB1 := Aside0.mk (blk_below HB.out hb)
      have HD1 := Aside0.mk (HD.out.trans (hb.mono HD.out.size))
      clear hb HA HB HD
      clear a0 a1 a2 a3
      obtain ⟨b0, b1, b2, b3⟩ := cells4 HB1.out
      go_wp2_with fail
      refine (HN.out t1).mono ?_
      rw [hu]
      rintro e t2 ⟨rfl, hb⟩
      have HA2 := Aside0.mk (blk_below HA1.out hb)
      have HB2 := Aside0.mk (blk_below HB1.out hb)
      have HD2 := Aside0.mk (HD1.out.trans (hb.mono HD1.out.size))
      clear hb HA1 HB1 HD1
      clear b0 b1 b2 b3
      obtain ⟨a0, a1, a2, a3⟩ := cells4 HA2.out
      obtain ⟨b0, b1, b2, b3⟩ := cells4 HB2.out
      go_wp2
      go_ret
      exact ⟨rfl, HD2.out⟩
    | true =>
      cases q0 : decide (o < 0) with
      | true =>
        simp only [cond_true, cond_false]
        go_enter Try.func23, Try.ntmps23
        go_wp2_with fail
        generalize (w.alloc (.cells #[.int .i64 x0, .int .i64 x1, .int .i64 x2, .int .i64 x3] 36)).alloc (.cells #[.int .i64 y0, .int .i64 y1, .int .i64 y2, .int .i64 y3] 36) = t0 at HA HB HD ⊢
        obtain ⟨a0, a1, a2, a3⟩ := cells4 HA.out
        go_wp2_with fail
        refine (HM.out t0).mono ?_
        rw [hv]
        rintro e t1 ⟨rfl, hb⟩
        have HA1 := Aside0.mk (blk_below HA.out hb)
        have HB1 := Aside0.mk (blk_below HB.out hb)
        have HD1 := Aside0.mk (HD.out.trans (hb.mono HD.out.size))
        clear hb HA HB HD
        clear a0 a1 a2 a3
        obtain ⟨b0, b1, b2, b3⟩ := cells4 HB1.out
        go_wp2_with fail
        refine (HN.out t1).mono ?_
        rw [hu]
        rintro e t2 ⟨rfl, hb⟩
        have HA2 := Aside0.mk (blk_below HA1.out hb)
        have HB2 := Aside0.mk (blk_below HB1.out hb)
        have HD2 := Aside0.mk (HD1.out.trans (hb.mono HD1.out.size))
        clear hb HA1 HB1 HD1
        clear b0 b1 b2 b3
        obtain ⟨a0, a1, a2, a3⟩ := cells4 HA2.out
        obtain ⟨b0, b1, b2, b3⟩ := cells4 HB2.out
        go_wp2
        go_ret
        exact ⟨rfl, HD2.out⟩
      | false =>
        cases q1 : decide (o > 2) with
        | true =>
          simp only [cond_true, cond_false]
          go_enter Try.func23, Try.ntmps23
          go_wp2_with fail
          generalize (w.alloc (.cells #[.int .i64 x0, .int .i64 x1, .int .i64 x2, .int .i64 x3] 36)).alloc (.cells #[.int .i64 y0, .int .i64 y1, .int .i64 y2, .int .i64 y3] 36) = t0 at HA HB HD ⊢
          obtain ⟨a0, a1, a2, a3⟩ := cells4 HA.out
          go_wp2_with fail
          refine (HM.out t0).mono ?_
          rw [hv]
          rintro e t1 ⟨rfl, hb⟩
          have HA1 := Aside0.mk (blk_below HA.out hb)
          have HB1 := Aside0.mk (blk_below HB.out hb)
          have HD1 := Aside0.mk (HD.out.trans (hb.mono HD.out.size))
          clear hb HA HB HD
          clear a0 a1 a2 a3
          obtain ⟨b0, b1, b2, b3⟩ := cells4 HB1.out
          go_wp2_with fail
          refine (HN.out t1).mono ?_
          rw [hu]
          rintro e t2 ⟨rfl, hb⟩
          have HA2 := Aside0.mk (blk_below HA1.out hb)
          have HB2 := Aside0.mk (blk_below HB1.out hb)
          have HD2 := Aside0.mk (HD1.out.trans (hb.mono HD1.out.size))
          clear hb HA1 HB1 HD1
          clear b0 b1 b2 b3
          obtain ⟨a0, a1, a2, a3⟩ := cells4 HA2.out
          obtain ⟨b0, b1, b2, b3⟩ := cells4 HB2.out
          go_wp2
          go_ret
          exact ⟨rfl, HD2.out⟩
        | false =>
          cases q2 : (o == 0) with
          | true =>
            simp only [cond_true, cond_false]
            go_enter Try.func23, Try.ntmps23
            go_wp2_with fail
            generalize (w.alloc (.cells #[.int .i64 x0, .int .i64 x1, .int .i64 x2, .int .i64 x3] 36)).alloc (.cells #[.int .i64 y0, .int .i64 y1, .int .i64 y2, .int .i64 y3] 36) = t0 at HA HB HD ⊢
            obtain ⟨a0, a1, a2, a3⟩ := cells4 HA.out
            go_wp2_with fail
            refine (HM.out t0).mono ?_
            rw [hv]
            rintro e t1 ⟨rfl, hb⟩
            have HA1 := Aside0.mk (blk_below HA.out hb)
            have HB1 := Aside0.mk (blk_below HB.out hb)
            have HD1 := Aside0.mk (HD.out.trans (hb.mono HD.out.size))
            clear hb HA HB HD
            clear a0 a1 a2 a3
            obtain ⟨b0, b1, b2, b3⟩ := cells4 HB1.out
            go_wp2_with fail
            refine (HN.out t1).mono ?_
            rw [hu]
            rintro e t2 ⟨rfl, hb⟩
            have HA2 := Aside0.mk (blk_below HA1.out hb)
            have HB2 := Aside0.mk (blk_below HB1.out hb)
            have HD2 := Aside0.mk (HD1.out.trans (hb.mono HD1.out.size))
            clear hb HA1 HB1 HD1
            clear b0 b1 b2 b3
            obtain ⟨a0, a1, a2, a3⟩ := cells4 HA2.out
            obtain ⟨b0, b1, b2, b3⟩ := cells4 HB2.out
            go_wp2_with fail
            refine (HL.out t2).mono ?_
            rintro e t9 ⟨rfl, hb⟩
            have HD9 := Aside0.mk (HD2.out.trans (hb.mono HD2.out.size))
            clear hb
            go_wp2
            go_ret
            exact ⟨rfl, HD9.out⟩
          | false =>
            cases q3 : (dx != dy) with
            | true =>
              simp only [cond_true, cond_false]
              go_enter Try.func23, Try.ntmps23
              go_wp2_with fail
              generalize (w.alloc (.cells #[.int .i64 x0, .int .i64 x1, .int .i64 x2, .int .i64 x3] 36)).alloc (.cells #[.int .i64 y0, .int .i64 y1, .int .i64 y2, .int .i64 y3] 36) = t0 at HA HB HD ⊢
              obtain ⟨a0, a1, a2, a3⟩ := cells4 HA.out
              go_wp2_with fail
              refine (HM.out t0).mono ?_
              rw [hv]
              rintro e t1 ⟨rfl, hb⟩
              have HA1 := Aside0.mk (blk_below HA.out hb)
              have HB1 := Aside0.mk (blk_below HB.out hb)
              have HD1 := Aside0.mk (HD.out.trans (hb.mono HD.out.size))
              clear hb HA HB HD
              clear a0 a1 a2 a3
              obtain ⟨b0, b1, b2, b3⟩ := cells4 HB1.out
              go_wp2_with fail
              refine (HN.out t1).mono ?_
              rw [hu]
              rintro e t2 ⟨rfl, hb⟩
              have HA2 := Aside0.mk (blk_below HA1.out hb)
              have HB2 := Aside0.mk (blk_below HB1.out hb)
              have HD2 := Aside0.mk (HD1.out.trans (hb.mono HD1.out.size))
              clear hb HA1 HB1 HD1
              clear b0 b1 b2 b3
              obtain ⟨a0, a1, a2, a3⟩ := cells4 HA2.out
              obtain ⟨b0, b1, b2, b3⟩ := cells4 HB2.out
              go_wp2_with fail
              clear a0 a1 a2 a3 b0 b1 b2 b3
              refine start_ (n := 5) (S := fun w' => w'.cell? ⟨w.heap.size, 0, none⟩ = some (.int .i64 x0) ∧ w'.cell? ⟨w.heap.size, 1, none⟩ = some (.int .i64 x1) ∧ w'.cell? ⟨w.heap.size, 2, none⟩ = some (.int .i64 x2) ∧ w'.cell? ⟨w.heap.size, 3, none⟩ = some (.int .i64 x3) ∧ w'.cell? ⟨w.heap.size + 1, 0, none⟩ = some (.int .i64 y0) ∧ w'.cell? ⟨w.heap.size + 1, 1, none⟩ = some (.int .i64 y1) ∧ w'.cell? ⟨w.heap.size + 1, 2, none⟩ = some (.int .i64 y2) ∧ w'.cell? ⟨w.heap.size + 1, 3, none⟩ = some (.int .i64 y3)) (ds := []) #[false, false, false, false, false] (by kernel_rfl) rfl rfl ⟨(blk_cell (blk_drew HA2.out) 0).trans rfl, (blk_cell (blk_drew HA2.out) 1).trans rfl, (blk_cell (blk_drew HA2.out) 2).trans rfl, (blk_cell (blk_drew HA2.out) 3).trans rfl, (blk_cell (blk_drew HB2.out) 0).trans rfl, (blk_cell (blk_drew HB2.out) 1).trans rfl, (blk_cell (blk_drew HB2.out) 2).trans rfl, (blk_cell (blk_drew HB2.out) 3).trans rfl⟩ (fun hHeld => ?_)
              have HG20 := Aside0.mk (blk_drew HA2.out)
              have HH20 := Aside0.mk (blk_drew HB2.out)
              have HJ20 := Aside0.mk (below_drew HD2.out)
              generalize t2.drew = v20 at HG20 HH20 HJ20 hHeld ⊢
              clear HA2 HB2 HD2
              refine take_ (i := 0) (N := some 29) (v := ?_) (a' := ?_) #[true, false, false, false, false] rfl rfl (by kernel_rfl) (fun _ _ _ h => h) (Or.inl ⟨by rfl, ?_⟩) hHeld ?_ ?_
              rotate_left
              · rintro w' ⟨s0_, s1_, s2_, s3_, s4_, s5_, s6_, s7_⟩
                go_simp
                with_reducible rfl
              rotate_left
              · simp only [Act.put, List.setIfInBounds_toArray, List.set_cons_zero, List.set_cons_succ, i64_w, i32_w]
                rfl
              refine take_ (i := 2) (N := some 31) (v := ?_) (a' := ?_) #[true, false, true, false, false] rfl rfl (by kernel_rfl) (fun _ _ _ h => h) (Or.inl ⟨by rfl, ?_⟩) hHeld ?_ ?_
              rotate_left
              · rintro w' ⟨s0_, s1_, s2_, s3_, s4_, s5_, s6_, s7_⟩
                go_simp
                with_reducible rfl
              rotate_left
              · simp only [Act.put, List.setIfInBounds_toArray, List.set_cons_zero, List.set_cons_succ, i64_w, i32_w]
                rfl
              refine one_ (i := 1) (N := some 30) #[true, true, true, false, false] rfl rfl (by kernel_rfl) (by decide) (fun K hK => ?_)
              refine goes_ Try.func56 (by kernel_rfl) rfl #[.agg #[.int .i64 x0, .int .i64 x1, .int .i64 x2, .int .i64 x3]] (by rfl) rfl rfl (by (try simp only [List.map_toArray, List.map_cons, List.map_nil]); first | done | rfl) ?_
              refine (HE.out _).mono ?_
              rintro e v21 ⟨rfl, hb⟩
              have HG21 := Aside0.mk (blk_below HG20.out hb)
              have HH21 := Aside0.mk (blk_below HH20.out hb)
              have HJ21 := Aside0.mk (HJ20.out.trans (hb.mono HJ20.out.size))
              clear hb
              refine ⟨_, rfl, ?_⟩
              refine hK.out _ _ ⟨(blk_cell HG21.out 0).trans rfl, (blk_cell HG21.out 1).trans rfl, (blk_cell HG21.out 2).trans rfl, (blk_cell HG21.out 3).trans rfl, (blk_cell HH21.out 0).trans rfl, (blk_cell HH21.out 1).trans rfl, (blk_cell HH21.out 2).trans rfl, (blk_cell HH21.out 3).trans rfl⟩ (fun hHeld => ?_)
              clear hK K
              refine norm_ (a' := ?_) ?_ ?_
              rotate_left
              · simp only [Act.put, List.setIfInBounds_toArray, List.set_cons_zero, List.set_cons_succ, i64_w, i32_w]
                rfl
              refine one_ (i := 3) (N := some 32) #[true, true, true, true, false] rfl rfl (by kernel_rfl) (by decide) (fun K hK => ?_)
              refine goes_ Try.func56 (by kernel_rfl) rfl #[.agg #[.int .i64 y0, .int .i64 y1, .int .i64 y2, .int .i64 y3]] (by rfl) rfl rfl (by (try simp only [List.map_toArray, List.map_cons, List.map_nil]); first | done | rfl) ?_
              refine (HF.out _).mono ?_
              rintro e v22 ⟨rfl, hb⟩
              have HG22 := Aside0.mk (blk_below HG21.out hb)
              have HH22 := Aside0.mk (blk_below HH21.out hb)
              have HJ22 := Aside0.mk (HJ21.out.trans (hb.mono HJ21.out.size))
              clear hb
              refine ⟨_, rfl, ?_⟩
              refine hK.out _ _ ⟨(blk_cell HG22.out 0).trans rfl, (blk_cell HG22.out 1).trans rfl, (blk_cell HG22.out 2).trans rfl, (blk_cell HG22.out 3).trans rfl, (blk_cell HH22.out 0).trans rfl, (blk_cell HH22.out 1).trans rfl, (blk_cell HH22.out 2).trans rfl, (blk_cell HH22.out 3).trans rfl⟩ (fun hHeld => ?_)
              clear hK K
              refine norm_ (a' := ?_) ?_ ?_
              rotate_left
              · simp only [Act.put, List.setIfInBounds_toArray, List.set_cons_zero, List.set_cons_succ, i64_w, i32_w]
                rfl
              refine pure_ (i := 4) (N := some 33) (v := ?_) (a' := ?_) #[true, true, true, true, true] rfl rfl (by kernel_rfl) (fun _ _ _ h => h) (Or.inl ⟨by rfl, ?_⟩) ?_ ?_
              rotate_left
              · intro w'
                go_simp
                with_reducible rfl
              rotate_left
              · simp only [Act.put, List.setIfInBounds_toArray, List.set_cons_zero, List.set_cons_succ, i64_w, i32_w]
                rfl
              refine done_ (by kernel_rfl) ?_
              have HA2 := Aside0.mk HG22.out
              have HB2 := Aside0.mk HH22.out
              have HD2 := Aside0.mk HJ22.out
              clear HG22 HH22 HJ22
              clear hHeld
              obtain ⟨a0, a1, a2, a3⟩ := cells4 HA2.out
              obtain ⟨b0, b1, b2, b3⟩ := cells4 HB2.out
              go_wp2_with fail
              clear a0 a1 a2 a3 b0 b1 b2 b3
              refine start_ (n := 7) (S := fun w' => w'.cell? ⟨w.heap.size, 0, none⟩ = some (.int .i64 x0) ∧ w'.cell? ⟨w.heap.size, 1, none⟩ = some (.int .i64 x1) ∧ w'.cell? ⟨w.heap.size, 2, none⟩ = some (.int .i64 x2) ∧ w'.cell? ⟨w.heap.size, 3, none⟩ = some (.int .i64 x3) ∧ w'.cell? ⟨w.heap.size + 1, 0, none⟩ = some (.int .i64 y0) ∧ w'.cell? ⟨w.heap.size + 1, 1, none⟩ = some (.int .i64 y1) ∧ w'.cell? ⟨w.heap.size + 1, 2, none⟩ = some (.int .i64 y2) ∧ w'.cell? ⟨w.heap.size + 1, 3, none⟩ = some (.int .i64 y3)) (ds := []) #[false, false, false, false, false, false, false] (by kernel_rfl) rfl rfl ⟨(blk_cell (blk_drew HA2.out) 0).trans rfl, (blk_cell (blk_drew HA2.out) 1).trans rfl, (blk_cell (blk_drew HA2.out) 2).trans rfl, (blk_cell (blk_drew HA2.out) 3).trans rfl, (blk_cell (blk_drew HB2.out) 0).trans rfl, (blk_cell (blk_drew HB2.out) 1).trans rfl, (blk_cell (blk_drew HB2.out) 2).trans rfl, (blk_cell (blk_drew HB2.out) 3).trans rfl⟩ (fun hHeld => ?_)
              have HG30 := Aside0.mk (blk_drew HA2.out)
              have HH30 := Aside0.mk (blk_drew HB2.out)
              have HJ30 := Aside0.mk (below_drew HD2.out)
              generalize v22.drew = v30 at HG30 HH30 HJ30 hHeld ⊢
              clear HA2 HB2 HD2
              refine take_ (i := 0) (N := some 34) (v := ?_) (a' := ?_) #[true, false, false, false, false, false, false] rfl rfl (by kernel_rfl) (fun _ _ _ h => h) (Or.inl ⟨by rfl, ?_⟩) hHeld ?_ ?_
              rotate_left
              · rintro w' ⟨s0_, s1_, s2_, s3_, s4_, s5_, s6_, s7_⟩
                go_simp
                with_reducible rfl
              rotate_left
              · simp only [Act.put, List.setIfInBounds_toArray, List.set_cons_zero, List.set_cons_succ, i64_w, i32_w]
                rfl
              refine take_ (i := 2) (N := some 36) (v := ?_) (a' := ?_) #[true, false, true, false, false, false, false] rfl rfl (by kernel_rfl) (fun _ _ _ h => h) (Or.inl ⟨by rfl, ?_⟩) hHeld ?_ ?_
              rotate_left
              · rintro w' ⟨s0_, s1_, s2_, s3_, s4_, s5_, s6_, s7_⟩
                go_simp
                with_reducible rfl
              rotate_left
              · simp only [Act.put, List.setIfInBounds_toArray, List.set_cons_zero, List.set_cons_succ, i64_w, i32_w]
                rfl
              refine one_ (i := 1) (N := some 35) #[true, true, true, false, false, false, false] rfl rfl (by kernel_rfl) (by decide) (fun K hK => ?_)
              refine goes_ Try.func56 (by kernel_rfl) rfl #[.agg #[.int .i64 x0, .int .i64 x1, .int .i64 x2, .int .i64 x3]] (by rfl) rfl rfl (by (try simp only [List.map_toArray, List.map_cons, List.map_nil]); first | done | rfl) ?_
              refine (HE.out _).mono ?_
              rintro e v31 ⟨rfl, hb⟩
              have HG31 := Aside0.mk (blk_below HG30.out hb)
              have HH31 := Aside0.mk (blk_below HH30.out hb)
              have HJ31 := Aside0.mk (HJ30.out.trans (hb.mono HJ30.out.size))
              clear hb
              refine ⟨_, rfl, ?_⟩
              refine hK.out _ _ ⟨(blk_cell HG31.out 0).trans rfl, (blk_cell HG31.out 1).trans rfl, (blk_cell HG31.out 2).trans rfl, (blk_cell HG31.out 3).trans rfl, (blk_cell HH31.out 0).trans rfl, (blk_cell HH31.out 1).trans rfl, (blk_cell HH31.out 2).trans rfl, (blk_cell HH31.out 3).trans rfl⟩ (fun hHeld => ?_)
              clear hK K
              refine norm_ (a' := ?_) ?_ ?_
              rotate_left
              · simp only [Act.put, List.setIfInBounds_toArray, List.set_cons_zero, List.set_cons_succ, i64_w, i32_w]
                rfl
              refine one_ (i := 3) (N := some 37) #[true, true, true, true, false, false, false] rfl rfl (by kernel_rfl) (by decide) (fun K hK => ?_)
              refine goes_ Try.func56 (by kernel_rfl) rfl #[.agg #[.int .i64 y0, .int .i64 y1, .int .i64 y2, .int .i64 y3]] (by rfl) rfl rfl (by (try simp only [List.map_toArray, List.map_cons, List.map_nil]); first | done | rfl) ?_
              refine (HF.out _).mono ?_
              rintro e v32 ⟨rfl, hb⟩
              have HG32 := Aside0.mk (blk_below HG31.out hb)
              have HH32 := Aside0.mk (blk_below HH31.out hb)
              have HJ32 := Aside0.mk (HJ31.out.trans (hb.mono HJ31.out.size))
              clear hb
              refine ⟨_, rfl, ?_⟩
              refine hK.out _ _ ⟨(blk_cell HG32.out 0).trans rfl, (blk_cell HG32.out 1).trans rfl, (blk_cell HG32.out 2).trans rfl, (blk_cell HG32.out 3).trans rfl, (blk_cell HH32.out 0).trans rfl, (blk_cell HH32.out 1).trans rfl, (blk_cell HH32.out 2).trans rfl, (blk_cell HH32.out 3).trans rfl⟩ (fun hHeld => ?_)
              clear hK K
              refine norm_ (a' := ?_) ?_ ?_
              rotate_left
              · simp only [Act.put, List.setIfInBounds_toArray, List.set_cons_zero, List.set_cons_succ, i64_w, i32_w]
                rfl
              refine pure_ (i := 4) (N := some 38) (v := ?_) (a' := ?_) #[true, true, true, true, true, false, false] rfl rfl (by kernel_rfl) (fun _ _ _ h => h) (Or.inl ⟨by rfl, ?_⟩) ?_ ?_
              rotate_left
              · intro w'
                go_simp
                with_reducible rfl
              rotate_left
              · simp only [Act.put, List.setIfInBounds_toArray, List.set_cons_zero, List.set_cons_succ, i64_w, i32_w]
                rfl
              refine one_ (i := 5) (N := some 39) #[true, true, true, true, true, true, false] rfl rfl (by kernel_rfl) (by decide) (fun K hK => ?_)
              refine goes_ Try.func57 (by kernel_rfl) rfl #[.int .i64 (wrap64 (dx - dy))] (by rfl) rfl rfl (by (try simp only [List.map_toArray, List.map_cons, List.map_nil]); first | done | rfl) ?_
              refine (syzygyref08_sign.calls (wrap64 (dx - dy)) _ _ (sgn8_f _)).mono ?_
              rintro e v33 ⟨rfl, hb0⟩
              have hb := hb0.below
              have HG33 := Aside0.mk (blk_below HG32.out hb)
              have HH33 := Aside0.mk (blk_below HH32.out hb)
              have HJ33 := Aside0.mk (HJ32.out.trans (hb.mono HJ32.out.size))
              clear hb hb0
              refine ⟨_, rfl, ?_⟩
              refine hK.out _ _ ⟨(blk_cell HG33.out 0).trans rfl, (blk_cell HG33.out 1).trans rfl, (blk_cell HG33.out 2).trans rfl, (blk_cell HG33.out 3).trans rfl, (blk_cell HH33.out 0).trans rfl, (blk_cell HH33.out 1).trans rfl, (blk_cell HH33.out 2).trans rfl, (blk_cell HH33.out 3).trans rfl⟩ (fun hHeld => ?_)
              clear hK K
              refine norm_ (a' := ?_) ?_ ?_
              rotate_left
              · simp only [Act.put, List.setIfInBounds_toArray, List.set_cons_zero, List.set_cons_succ, i64_w, i32_w]
                rfl
              refine pure_ (i := 6) (N := some 6) (v := ?_) (a' := ?_) #[true, true, true, true, true, true, true] rfl rfl (by kernel_rfl) (fun _ _ _ h => h) (Or.inl ⟨by rfl, ?_⟩) ?_ ?_
              rotate_left
              · intro w'
                go_simp
                with_reducible rfl
              rotate_left
              · simp only [Act.put, List.setIfInBounds_toArray, List.set_cons_zero, List.set_cons_succ, i64_w, i32_w]
                rfl
              refine done_ (by kernel_rfl) ?_
              go_wp2
              go_ret
              exact ⟨rfl, HJ33.out⟩
            | false =>
              cases q4 : (o == 1) with
              | true =>
                simp only [cond_true, cond_false]
                go_enter Try.func23, Try.ntmps23
                go_wp2_with fail
                generalize (w.alloc (.cells #[.int .i64 x0, .int .i64 x1, .int .i64 x2, .int .i64 x3] 36)).alloc (.cells #[.int .i64 y0, .int .i64 y1, .int .i64 y2, .int .i64 y3] 36) = t0 at HA HB HD ⊢
                obtain ⟨a0, a1, a2, a3⟩ := cells4 HA.out
                go_wp2_with fail
                refine (HM.out t0).mono ?_
                rw [hv]
                rintro e t1 ⟨rfl, hb⟩
                have HA1 := Aside0.mk (blk_below HA.out hb)
                have HB1 := Aside0.mk (blk_below HB.out hb)
                have HD1 := Aside0.mk (HD.out.trans (hb.mono HD.out.size))
                clear hb HA HB HD
                clear a0 a1 a2 a3
                obtain ⟨b0, b1, b2, b3⟩ := cells4 HB1.out
                go_wp2_with fail
                refine (HN.out t1).mono ?_
                rw [hu]
                rintro e t2 ⟨rfl, hb⟩
                have HA2 := Aside0.mk (blk_below HA1.out hb)
                have HB2 := Aside0.mk (blk_below HB1.out hb)
                have HD2 := Aside0.mk (HD1.out.trans (hb.mono HD1.out.size))
                clear hb HA1 HB1 HD1
                clear b0 b1 b2 b3
                obtain ⟨a0, a1, a2, a3⟩ := cells4 HA2.out
                obtain ⟨b0, b1, b2, b3⟩ := cells4 HB2.out
                go_wp2_with fail
                clear a0 a1 a2 a3 b0 b1 b2 b3
                refine start_ (n := 5) (S := fun w' => w'.cell? ⟨w.heap.size, 0, none⟩ = some (.int .i64 x0) ∧ w'.cell? ⟨w.heap.size, 1, none⟩ = some (.int .i64 x1) ∧ w'.cell? ⟨w.heap.size, 2, none⟩ = some (.int .i64 x2) ∧ w'.cell? ⟨w.heap.size, 3, none⟩ = some (.int .i64 x3) ∧ w'.cell? ⟨w.heap.size + 1, 0, none⟩ = some (.int .i64 y0) ∧ w'.cell? ⟨w.heap.size + 1, 1, none⟩ = some (.int .i64 y1) ∧ w'.cell? ⟨w.heap.size + 1, 2, none⟩ = some (.int .i64 y2) ∧ w'.cell? ⟨w.heap.size + 1, 3, none⟩ = some (.int .i64 y3)) (ds := []) #[false, false, false, false, false] (by kernel_rfl) rfl rfl ⟨(blk_cell (blk_drew HA2.out) 0).trans rfl, (blk_cell (blk_drew HA2.out) 1).trans rfl, (blk_cell (blk_drew HA2.out) 2).trans rfl, (blk_cell (blk_drew HA2.out) 3).trans rfl, (blk_cell (blk_drew HB2.out) 0).trans rfl, (blk_cell (blk_drew HB2.out) 1).trans rfl, (blk_cell (blk_drew HB2.out) 2).trans rfl, (blk_cell (blk_drew HB2.out) 3).trans rfl⟩ (fun hHeld => ?_)
                have HG20 := Aside0.mk (blk_drew HA2.out)
                have HH20 := Aside0.mk (blk_drew HB2.out)
                have HJ20 := Aside0.mk (below_drew HD2.out)
                generalize t2.drew = v20 at HG20 HH20 HJ20 hHeld ⊢
                clear HA2 HB2 HD2
                refine take_ (i := 0) (N := some 29) (v := ?_) (a' := ?_) #[true, false, false, false, false] rfl rfl (by kernel_rfl) (fun _ _ _ h => h) (Or.inl ⟨by rfl, ?_⟩) hHeld ?_ ?_
                rotate_left
                · rintro w' ⟨s0_, s1_, s2_, s3_, s4_, s5_, s6_, s7_⟩
                  go_simp
                  with_reducible rfl
                rotate_left
                · simp only [Act.put, List.setIfInBounds_toArray, List.set_cons_zero, List.set_cons_succ, i64_w, i32_w]
                  rfl
                refine take_ (i := 2) (N := some 31) (v := ?_) (a' := ?_) #[true, false, true, false, false] rfl rfl (by kernel_rfl) (fun _ _ _ h => h) (Or.inl ⟨by rfl, ?_⟩) hHeld ?_ ?_
                rotate_left
                · rintro w' ⟨s0_, s1_, s2_, s3_, s4_, s5_, s6_, s7_⟩
                  go_simp
                  with_reducible rfl
                rotate_left
                · simp only [Act.put, List.setIfInBounds_toArray, List.set_cons_zero, List.set_cons_succ, i64_w, i32_w]
                  rfl
                refine one_ (i := 1) (N := some 30) #[true, true, true, false, false] rfl rfl (by kernel_rfl) (by decide) (fun K hK => ?_)
                refine goes_ Try.func56 (by kernel_rfl) rfl #[.agg #[.int .i64 x0, .int .i64 x1, .int .i64 x2, .int .i64 x3]] (by rfl) rfl rfl (by (try simp only [List.map_toArray, List.map_cons, List.map_nil]); first | done | rfl) ?_
                refine (HE.out _).mono ?_
                rintro e v21 ⟨rfl, hb⟩
                have HG21 := Aside0.mk (blk_below HG20.out hb)
                have HH21 := Aside0.mk (blk_below HH20.out hb)
                have HJ21 := Aside0.mk (HJ20.out.trans (hb.mono HJ20.out.size))
                clear hb
                refine ⟨_, rfl, ?_⟩
                refine hK.out _ _ ⟨(blk_cell HG21.out 0).trans rfl, (blk_cell HG21.out 1).trans rfl, (blk_cell HG21.out 2).trans rfl, (blk_cell HG21.out 3).trans rfl, (blk_cell HH21.out 0).trans rfl, (blk_cell HH21.out 1).trans rfl, (blk_cell HH21.out 2).trans rfl, (blk_cell HH21.out 3).trans rfl⟩ (fun hHeld => ?_)
                clear hK K
                refine norm_ (a' := ?_) ?_ ?_
                rotate_left
                · simp only [Act.put, List.setIfInBounds_toArray, List.set_cons_zero, List.set_cons_succ, i64_w, i32_w]
                  rfl
                refine one_ (i := 3) (N := some 32) #[true, true, true, true, false] rfl rfl (by kernel_rfl) (by decide) (fun K hK => ?_)
                refine goes_ Try.func56 (by kernel_rfl) rfl #[.agg #[.int .i64 y0, .int .i64 y1, .int .i64 y2, .int .i64 y3]] (by rfl) rfl rfl (by (try simp only [List.map_toArray, List.map_cons, List.map_nil]); first | done | rfl) ?_
                refine (HF.out _).mono ?_
                rintro e v22 ⟨rfl, hb⟩
                have HG22 := Aside0.mk (blk_below HG21.out hb)
                have HH22 := Aside0.mk (blk_below HH21.out hb)
                have HJ22 := Aside0.mk (HJ21.out.trans (hb.mono HJ21.out.size))
                clear hb
                refine ⟨_, rfl, ?_⟩
                refine hK.out _ _ ⟨(blk_cell HG22.out 0).trans rfl, (blk_cell HG22.out 1).trans rfl, (blk_cell HG22.out 2).trans rfl, (blk_cell HG22.out 3).trans rfl, (blk_cell HH22.out 0).trans rfl, (blk_cell HH22.out 1).trans rfl, (blk_cell HH22.out 2).trans rfl, (blk_cell HH22.out 3).trans rfl⟩ (fun hHeld => ?_)
                clear hK K
                refine norm_ (a' := ?_) ?_ ?_
                rotate_left
                · simp only [Act.put, List.setIfInBounds_toArray, List.set_cons_zero, List.set_cons_succ, i64_w, i32_w]
                  rfl
                refine pure_ (i := 4) (N := some 33) (v := ?_) (a' := ?_) #[true, true, true, true, true] rfl rfl (by kernel_rfl) (fun _ _ _ h => h) (Or.inl ⟨by rfl, ?_⟩) ?_ ?_
                rotate_left
                · intro w'
                  go_simp
                  with_reducible rfl
                rotate_left
                · simp only [Act.put, List.setIfInBounds_toArray, List.set_cons_zero, List.set_cons_succ, i64_w, i32_w]
                  rfl
                refine done_ (by kernel_rfl) ?_
                have HA2 := Aside0.mk HG22.out
                have HB2 := Aside0.mk HH22.out
                have HD2 := Aside0.mk HJ22.out
                clear HG22 HH22 HJ22
                clear hHeld
                obtain ⟨a0, a1, a2, a3⟩ := cells4 HA2.out
                obtain ⟨b0, b1, b2, b3⟩ := cells4 HB2.out
                go_wp2_with fail
                refine (HL.out v22).mono ?_
                rintro e t9 ⟨rfl, hb⟩
                have HD9 := Aside0.mk (HD2.out.trans (hb.mono HD2.out.size))
                clear hb
                go_wp2
                go_ret
                exact ⟨rfl, HD9.out⟩
              | false =>
                unfold syzygyref08_Cmp.rev
                cases n3 : (x3 != y3) with
                | true =>
                  simp only [cond_true, cond_false]
                  go_enter Try.func23, Try.ntmps23
                  go_wp2_with fail
                  generalize (w.alloc (.cells #[.int .i64 x0, .int .i64 x1, .int .i64 x2, .int .i64 x3] 36)).alloc (.cells #[.int .i64 y0, .int .i64 y1, .int .i64 y2, .int .i64 y3] 36) = t0 at HA HB HD ⊢
                  obtain ⟨a0, a1, a2, a3⟩ := cells4 HA.out
                  go_wp2_with fail
                  refine (HM.out t0).mono ?_
                  rw [hv]
                  rintro e t1 ⟨rfl, hb⟩
                  have HA1 := Aside0.mk (blk_below HA.out hb)
                  have HB1 := Aside0.mk (blk_below HB.out hb)
                  have HD1 := Aside0.mk (HD.out.trans (hb.mono HD.out.size))
                  clear hb HA HB HD
                  clear a0 a1 a2 a3
                  obtain ⟨b0, b1, b2, b3⟩ := cells4 HB1.out
                  go_wp2_with fail
                  refine (HN.out t1).mono ?_
                  rw [hu]
                  rintro e t2 ⟨rfl, hb⟩
                  have HA2 := Aside0.mk (blk_below HA1.out hb)
                  have HB2 := Aside0.mk (blk_below HB1.out hb)
                  have HD2 := Aside0.mk (HD1.out.trans (hb.mono HD1.out.size))
                  clear hb HA1 HB1 HD1
                  clear b0 b1 b2 b3
                  obtain ⟨a0, a1, a2, a3⟩ := cells4 HA2.out
                  obtain ⟨b0, b1, b2, b3⟩ := cells4 HB2.out
                  go_wp2_with fail
                  clear a0 a1 a2 a3 b0 b1 b2 b3
                  refine start_ (n := 5) (S := fun w' => w'.cell? ⟨w.heap.size, 0, none⟩ = some (.int .i64 x0) ∧ w'.cell? ⟨w.heap.size, 1, none⟩ = some (.int .i64 x1) ∧ w'.cell? ⟨w.heap.size, 2, none⟩ = some (.int .i64 x2) ∧ w'.cell? ⟨w.heap.size, 3, none⟩ = some (.int .i64 x3) ∧ w'.cell? ⟨w.heap.size + 1, 0, none⟩ = some (.int .i64 y0) ∧ w'.cell? ⟨w.heap.size + 1, 1, none⟩ = some (.int .i64 y1) ∧ w'.cell? ⟨w.heap.size + 1, 2, none⟩ = some (.int .i64 y2) ∧ w'.cell? ⟨w.heap.size + 1, 3, none⟩ = some (.int .i64 y3)) (ds := []) #[false, false, false, false, false] (by kernel_rfl) rfl rfl ⟨(blk_cell (blk_drew HA2.out) 0).trans rfl, (blk_cell (blk_drew HA2.out) 1).trans rfl, (blk_cell (blk_drew HA2.out) 2).trans rfl, (blk_cell (blk_drew HA2.out) 3).trans rfl, (blk_cell (blk_drew HB2.out) 0).trans rfl, (blk_cell (blk_drew HB2.out) 1).trans rfl, (blk_cell (blk_drew HB2.out) 2).trans rfl, (blk_cell (blk_drew HB2.out) 3).trans rfl⟩ (fun hHeld => ?_)
                  have HG20 := Aside0.mk (blk_drew HA2.out)
                  have HH20 := Aside0.mk (blk_drew HB2.out)
                  have HJ20 := Aside0.mk (below_drew HD2.out)
                  generalize t2.drew = v20 at HG20 HH20 HJ20 hHeld ⊢
                  clear HA2 HB2 HD2
                  refine take_ (i := 0) (N := some 29) (v := ?_) (a' := ?_) #[true, false, false, false, false] rfl rfl (by kernel_rfl) (fun _ _ _ h => h) (Or.inl ⟨by rfl, ?_⟩) hHeld ?_ ?_
                  rotate_left
                  · rintro w' ⟨s0_, s1_, s2_, s3_, s4_, s5_, s6_, s7_⟩
                    go_simp
                    with_reducible rfl
                  rotate_left
                  · simp only [Act.put, List.setIfInBounds_toArray, List.set_cons_zero, List.set_cons_succ, i64_w, i32_w]
                    rfl
                  refine take_ (i := 2) (N := some 31) (v := ?_) (a' := ?_) #[true, false, true, false, false] rfl rfl (by kernel_rfl) (fun _ _ _ h => h) (Or.inl ⟨by rfl, ?_⟩) hHeld ?_ ?_
                  rotate_left
                  · rintro w' ⟨s0_, s1_, s2_, s3_, s4_, s5_, s6_, s7_⟩
                    go_simp
                    with_reducible rfl
                  rotate_left
                  · simp only [Act.put, List.setIfInBounds_toArray, List.set_cons_zero, List.set_cons_succ, i64_w, i32_w]
                    rfl
                  refine one_ (i := 1) (N := some 30) #[true, true, true, false, false] rfl rfl (by kernel_rfl) (by decide) (fun K hK => ?_)
                  refine goes_ Try.func56 (by kernel_rfl) rfl #[.agg #[.int .i64 x0, .int .i64 x1, .int .i64 x2, .int .i64 x3]] (by rfl) rfl rfl (by (try simp only [List.map_toArray, List.map_cons, List.map_nil]); first | done | rfl) ?_
                  refine (HE.out _).mono ?_
                  rintro e v21 ⟨rfl, hb⟩
                  have HG21 := Aside0.mk (blk_below HG20.out hb)
                  have HH21 := Aside0.mk (blk_below HH20.out hb)
                  have HJ21 := Aside0.mk (HJ20.out.trans (hb.mono HJ20.out.size))
                  clear hb
                  refine ⟨_, rfl, ?_⟩
                  refine hK.out _ _ ⟨(blk_cell HG21.out 0).trans rfl, (blk_cell HG21.out 1).trans rfl, (blk_cell HG21.out 2).trans rfl, (blk_cell HG21.out 3).trans rfl, (blk_cell HH21.out 0).trans rfl, (blk_cell HH21.out 1).trans rfl, (blk_cell HH21.out 2).trans rfl, (blk_cell HH21.out 3).trans rfl⟩ (fun hHeld => ?_)
                  clear hK K
                  refine norm_ (a' := ?_) ?_ ?_
                  rotate_left
                  · simp only [Act.put, List.setIfInBounds_toArray, List.set_cons_zero, List.set_cons_succ, i64_w, i32_w]
                    rfl
                  refine one_ (i := 3) (N := some 32) #[true, true, true, true, false] rfl rfl (by kernel_rfl) (by decide) (fun K hK => ?_)
                  refine goes_ Try.func56 (by kernel_rfl) rfl #[.agg #[.int .i64 y0, .int .i64 y1, .int .i64 y2, .int .i64 y3]] (by rfl) rfl rfl (by (try simp only [List.map_toArray, List.map_cons, List.map_nil]); first | done | rfl) ?_
                  refine (HF.out _).mono ?_
                  rintro e v22 ⟨rfl, hb⟩
                  have HG22 := Aside0.mk (blk_below HG21.out hb)
                  have HH22 := Aside0.mk (blk_below HH21.out hb)
                  have HJ22 := Aside0.mk (HJ21.out.trans (hb.mono HJ21.out.size))
                  clear hb
                  refine ⟨_, rfl, ?_⟩
                  refine hK.out _ _ ⟨(blk_cell HG22.out 0).trans rfl, (blk_cell HG22.out 1).trans rfl, (blk_cell HG22.out 2).trans rfl, (blk_cell HG22.out 3).trans rfl, (blk_cell HH22.out 0).trans rfl, (blk_cell HH22.out 1).trans rfl, (blk_cell HH22.out 2).trans rfl, (blk_cell HH22.out 3).trans rfl⟩ (fun hHeld => ?_)
                  clear hK K
                  refine norm_ (a' := ?_) ?_ ?_
                  rotate_left
                  · simp only [Act.put, List.setIfInBounds_toArray, List.set_cons_zero, List.set_cons_succ, i64_w, i32_w]
                    rfl
                  refine pure_ (i := 4) (N := some 33) (v := ?_) (a' := ?_) #[true, true, true, true, true] rfl rfl (by kernel_rfl) (fun _ _ _ h => h) (Or.inl ⟨by rfl, ?_⟩) ?_ ?_
                  rotate_left
                  · intro w'
                    go_simp
                    with_reducible rfl
                  rotate_left
                  · simp only [Act.put, List.setIfInBounds_toArray, List.set_cons_zero, List.set_cons_succ, i64_w, i32_w]
                    rfl
                  refine done_ (by kernel_rfl) ?_
                  have HA2 := Aside0.mk HG22.out
                  have HB2 := Aside0.mk HH22.out
                  have HD2 := Aside0.mk HJ22.out
                  clear HG22 HH22 HJ22
                  clear hHeld
                  go_wp2_with fail
                  have HA := Aside0.mk HA2.out
                  have HB := Aside0.mk HB2.out
                  have HD := Aside0.mk HD2.out
                  clear HA2 HB2 HD2
                  refine wp_loop_rounds 1 ?_
                  rw [rounds_succ]
                  go_wp2
                  have ca : (v22.drew).cell? ⟨w.heap.size, 3, none⟩ = some (.int .i64 x3) := (blk_cell (blk_drew HA.out) 3).trans rfl
                  have cb : (v22.drew).cell? ⟨w.heap.size + 1, 3, none⟩ = some (.int .i64 y3) := (blk_cell (blk_drew HB.out) 3).trans rfl
                  have KA := Aside0.mk (blk_drew HA.out)
                  have KB := Aside0.mk (blk_drew HB.out)
                  have KD := Aside0.mk (below_drew HD.out)
                  refine wp_region_still_tail 6 (by kernel_rfl) (by kernel_rfl) ?_
                  change wpStill Try.prog _ v22.drew (fun a' => wpList Try.prog _ _ _ a' v22.drew) _ _
                  generalize v22.drew = v40 at KA KB KD ca cb ⊢
                  clear HA HB HD
                  have HA := Aside0.mk KA.out
                  have HB := Aside0.mk KB.out
                  have HD := Aside0.mk KD.out
                  clear KA KB KD
                  simp only [List.take_succ_cons, List.take_zero, List.drop_succ_cons, List.drop_zero]
                  repeat still_step
                  refine wpStill_nil ?_
                  go_wp2_with fail
                  have ca : (v40.drew).cell? ⟨w.heap.size, 3, none⟩ = some (.int .i64 x3) := (blk_cell (blk_drew HA.out) 3).trans rfl
                  have cb : (v40.drew).cell? ⟨w.heap.size + 1, 3, none⟩ = some (.int .i64 y3) := (blk_cell (blk_drew HB.out) 3).trans rfl
                  have KA := Aside0.mk (blk_drew HA.out)
                  have KB := Aside0.mk (blk_drew HB.out)
                  have KD := Aside0.mk (below_drew HD.out)
                  refine wp_region_still_tail 7 (by kernel_rfl) (by kernel_rfl) ?_
                  change wpStill Try.prog _ v40.drew (fun a' => wpList Try.prog _ _ _ a' v40.drew) _ _
                  generalize v40.drew = v41 at KA KB KD ca cb ⊢
                  clear HA HB HD
                  have HA := Aside0.mk KA.out
                  have HB := Aside0.mk KB.out
                  have HD := Aside0.mk KD.out
                  clear KA KB KD
                  simp only [List.take_succ_cons, List.take_zero, List.drop_succ_cons, List.drop_zero]
                  repeat still_step
                  refine wpStill_nil ?_
                  go_wp2_with fail
                  refine (syzygyref08_sign.calls (wrap64 (y3 - x3)) _ _ (sgn8_f _)).mono ?_
                  rintro e w1 ⟨rfl, ⟨nd, rfl⟩⟩
                  have HZ := Aside0.mk (pw_below_drewN HD.out nd)
                  go_wp2
                  go_ret
                  exact ⟨rfl, HZ.out⟩
                | false =>
                  cases n2 : (x2 != y2) with
                  | true =>
                    simp only [cond_true, cond_false]
                    go_enter Try.func23, Try.ntmps23
                    go_wp2_with fail
                    generalize (w.alloc (.cells #[.int .i64 x0, .int .i64 x1, .int .i64 x2, .int .i64 x3] 36)).alloc (.cells #[.int .i64 y0, .int .i64 y1, .int .i64 y2, .int .i64 y3] 36) = t0 at HA HB HD ⊢
                    obtain ⟨a0, a1, a2, a3⟩ := cells4 HA.out
                    go_wp2_with fail
                    refine (HM.out t0).mono ?_
                    rw [hv]
                    rintro e t1 ⟨rfl, hb⟩
                    have HA1 := Aside0.mk (blk_below HA.out hb)
                    have HB1 := Aside0.mk (blk_below HB.out hb)
                    have HD1 := Aside0.mk (HD.out.trans (hb.mono HD.out.size))
                    clear hb HA HB HD
                    clear a0 a1 a2 a3
                    obtain ⟨b0, b1, b2, b3⟩ := cells4 HB1.out
                    go_wp2_with fail
                    refine (HN.out t1).mono ?_
                    rw [hu]
                    rintro e t2 ⟨rfl, hb⟩
                    have HA2 := Aside0.mk (blk_below HA1.out hb)
                    have HB2 := Aside0.mk (blk_below HB1.out hb)
                    have HD2 := Aside0.mk (HD1.out.trans (hb.mono HD1.out.size))
                    clear hb HA1 HB1 HD1
                    clear b0 b1 b2 b3
                    obtain ⟨a0, a1, a2, a3⟩ := cells4 HA2.out
                    obtain ⟨b0, b1, b2, b3⟩ := cells4 HB2.out
                    go_wp2_with fail
                    clear a0 a1 a2 a3 b0 b1 b2 b3
                    refine start_ (n := 5) (S := fun w' => w'.cell? ⟨w.heap.size, 0, none⟩ = some (.int .i64 x0) ∧ w'.cell? ⟨w.heap.size, 1, none⟩ = some (.int .i64 x1) ∧ w'.cell? ⟨w.heap.size, 2, none⟩ = some (.int .i64 x2) ∧ w'.cell? ⟨w.heap.size, 3, none⟩ = some (.int .i64 x3) ∧ w'.cell? ⟨w.heap.size + 1, 0, none⟩ = some (.int .i64 y0) ∧ w'.cell? ⟨w.heap.size + 1, 1, none⟩ = some (.int .i64 y1) ∧ w'.cell? ⟨w.heap.size + 1, 2, none⟩ = some (.int .i64 y2) ∧ w'.cell? ⟨w.heap.size + 1, 3, none⟩ = some (.int .i64 y3)) (ds := []) #[false, false, false, false, false] (by kernel_rfl) rfl rfl ⟨(blk_cell (blk_drew HA2.out) 0).trans rfl, (blk_cell (blk_drew HA2.out) 1).trans rfl, (blk_cell (blk_drew HA2.out) 2).trans rfl, (blk_cell (blk_drew HA2.out) 3).trans rfl, (blk_cell (blk_drew HB2.out) 0).trans rfl, (blk_cell (blk_drew HB2.out) 1).trans rfl, (blk_cell (blk_drew HB2.out) 2).trans rfl, (blk_cell (blk_drew HB2.out) 3).trans rfl⟩ (fun hHeld => ?_)
                    have HG20 := Aside0.mk (blk_drew HA2.out)
                    have HH20 := Aside0.mk (blk_drew HB2.out)
                    have HJ20 := Aside0.mk (below_drew HD2.out)
                    generalize t2.drew = v20 at HG20 HH20 HJ20 hHeld ⊢
                    clear HA2 HB2 HD2
                    refine take_ (i := 0) (N := some 29) (v := ?_) (a' := ?_) #[true, false, false, false, false] rfl rfl (by kernel_rfl) (fun _ _ _ h => h) (Or.inl ⟨by rfl, ?_⟩) hHeld ?_ ?_
                    rotate_left
                    · rintro w' ⟨s0_, s1_, s2_, s3_, s4_, s5_, s6_, s7_⟩
                      go_simp
                      with_reducible rfl
                    rotate_left
                    · simp only [Act.put, List.setIfInBounds_toArray, List.set_cons_zero, List.set_cons_succ, i64_w, i32_w]
                      rfl
                    refine take_ (i := 2) (N := some 31) (v := ?_) (a' := ?_) #[true, false, true, false, false] rfl rfl (by kernel_rfl) (fun _ _ _ h => h) (Or.inl ⟨by rfl, ?_⟩) hHeld ?_ ?_
                    rotate_left
                    · rintro w' ⟨s0_, s1_, s2_, s3_, s4_, s5_, s6_, s7_⟩
                      go_simp
                      with_reducible rfl
                    rotate_left
                    · simp only [Act.put, List.setIfInBounds_toArray, List.set_cons_zero, List.set_cons_succ, i64_w, i32_w]
                      rfl
                    refine one_ (i := 1) (N := some 30) #[true, true, true, false, false] rfl rfl (by kernel_rfl) (by decide) (fun K hK => ?_)
                    refine goes_ Try.func56 (by kernel_rfl) rfl #[.agg #[.int .i64 x0, .int .i64 x1, .int .i64 x2, .int .i64 x3]] (by rfl) rfl rfl (by (try simp only [List.map_toArray, List.map_cons, List.map_nil]); first | done | rfl) ?_
                    refine (HE.out _).mono ?_
                    rintro e v21 ⟨rfl, hb⟩
                    have HG21 := Aside0.mk (blk_below HG20.out hb)
                    have HH21 := Aside0.mk (blk_below HH20.out hb)
                    have HJ21 := Aside0.mk (HJ20.out.trans (hb.mono HJ20.out.size))
                    clear hb
                    refine ⟨_, rfl, ?_⟩
                    refine hK.out _ _ ⟨(blk_cell HG21.out 0).trans rfl, (blk_cell HG21.out 1).trans rfl, (blk_cell HG21.out 2).trans rfl, (blk_cell HG21.out 3).trans rfl, (blk_cell HH21.out 0).trans rfl, (blk_cell HH21.out 1).trans rfl, (blk_cell HH21.out 2).trans rfl, (blk_cell HH21.out 3).trans rfl⟩ (fun hHeld => ?_)
                    clear hK K
                    refine norm_ (a' := ?_) ?_ ?_
                    rotate_left
                    · simp only [Act.put, List.setIfInBounds_toArray, List.set_cons_zero, List.set_cons_succ, i64_w, i32_w]
                      rfl
                    refine one_ (i := 3) (N := some 32) #[true, true, true, true, false] rfl rfl (by kernel_rfl) (by decide) (fun K hK => ?_)
                    refine goes_ Try.func56 (by kernel_rfl) rfl #[.agg #[.int .i64 y0, .int .i64 y1, .int .i64 y2, .int .i64 y3]] (by rfl) rfl rfl (by (try simp only [List.map_toArray, List.map_cons, List.map_nil]); first | done | rfl) ?_
                    refine (HF.out _).mono ?_
                    rintro e v22 ⟨rfl, hb⟩
                    have HG22 := Aside0.mk (blk_below HG21.out hb)
                    have HH22 := Aside0.mk (blk_below HH21.out hb)
                    have HJ22 := Aside0.mk (HJ21.out.trans (hb.mono HJ21.out.size))
                    clear hb
                    refine ⟨_, rfl, ?_⟩
                    refine hK.out _ _ ⟨(blk_cell HG22.out 0).trans rfl, (blk_cell HG22.out 1).trans rfl, (blk_cell HG22.out 2).trans rfl, (blk_cell HG22.out 3).trans rfl, (blk_cell HH22.out 0).trans rfl, (blk_cell HH22.out 1).trans rfl, (blk_cell HH22.out 2).trans rfl, (blk_cell HH22.out 3).trans rfl⟩ (fun hHeld => ?_)
                    clear hK K
                    refine norm_ (a' := ?_) ?_ ?_
                    rotate_left
                    · simp only [Act.put, List.setIfInBounds_toArray, List.set_cons_zero, List.set_cons_succ, i64_w, i32_w]
                      rfl
                    refine pure_ (i := 4) (N := some 33) (v := ?_) (a' := ?_) #[true, true, true, true, true] rfl rfl (by kernel_rfl) (fun _ _ _ h => h) (Or.inl ⟨by rfl, ?_⟩) ?_ ?_
                    rotate_left
                    · intro w'
                      go_simp
                      with_reducible rfl
                    rotate_left
                    · simp only [Act.put, List.setIfInBounds_toArray, List.set_cons_zero, List.set_cons_succ, i64_w, i32_w]
                      rfl
                    refine done_ (by kernel_rfl) ?_
                    have HA2 := Aside0.mk HG22.out
                    have HB2 := Aside0.mk HH22.out
                    have HD2 := Aside0.mk HJ22.out
                    clear HG22 HH22 HJ22
                    clear hHeld
                    go_wp2_with fail
                    have HA := Aside0.mk HA2.out
                    have HB := Aside0.mk HB2.out
                    have HD := Aside0.mk HD2.out
                    clear HA2 HB2 HD2
                    refine wp_loop_rounds 2 ?_
                    rw [rounds_succ]
                    go_wp2
                    have ca : (v22.drew).cell? ⟨w.heap.size, 3, none⟩ = some (.int .i64 x3) := (blk_cell (blk_drew HA.out) 3).trans rfl
                    have cb : (v22.drew).cell? ⟨w.heap.size + 1, 3, none⟩ = some (.int .i64 y3) := (blk_cell (blk_drew HB.out) 3).trans rfl
                    have KA := Aside0.mk (blk_drew HA.out)
                    have KB := Aside0.mk (blk_drew HB.out)
                    have KD := Aside0.mk (below_drew HD.out)
                    refine wp_region_still_tail 6 (by kernel_rfl) (by kernel_rfl) ?_
                    change wpStill Try.prog _ v22.drew (fun a' => wpList Try.prog _ _ _ a' v22.drew) _ _
                    generalize v22.drew = v40 at KA KB KD ca cb ⊢
                    clear HA HB HD
                    have HA := Aside0.mk KA.out
                    have HB := Aside0.mk KB.out
                    have HD := Aside0.mk KD.out
                    clear KA KB KD
                    simp only [List.take_succ_cons, List.take_zero, List.drop_succ_cons, List.drop_zero]
                    repeat still_step
                    refine wpStill_nil ?_
                    go_wp2_with fail
                    clear ca cb
                    rw [rounds_succ]
                    go_wp2
                    have ca : (v40.drew).cell? ⟨w.heap.size, 2, none⟩ = some (.int .i64 x2) := (blk_cell (blk_drew HA.out) 2).trans rfl
                    have cb : (v40.drew).cell? ⟨w.heap.size + 1, 2, none⟩ = some (.int .i64 y2) := (blk_cell (blk_drew HB.out) 2).trans rfl
                    have KA := Aside0.mk (blk_drew HA.out)
                    have KB := Aside0.mk (blk_drew HB.out)
                    have KD := Aside0.mk (below_drew HD.out)
                    refine wp_region_still_tail 6 (by kernel_rfl) (by kernel_rfl) ?_
                    change wpStill Try.prog _ v40.drew (fun a' => wpList Try.prog _ _ _ a' v40.drew) _ _
                    generalize v40.drew = v41 at KA KB KD ca cb ⊢
                    clear HA HB HD
                    have HA := Aside0.mk KA.out
                    have HB := Aside0.mk KB.out
                    have HD := Aside0.mk KD.out
                    clear KA KB KD
                    simp only [List.take_succ_cons, List.take_zero, List.drop_succ_cons, List.drop_zero]
                    repeat still_step
                    refine wpStill_nil ?_
                    go_wp2_with fail
                    have ca : (v41.drew).cell? ⟨w.heap.size, 2, none⟩ = some (.int .i64 x2) := (blk_cell (blk_drew HA.out) 2).trans rfl
                    have cb : (v41.drew).cell? ⟨w.heap.size + 1, 2, none⟩ = some (.int .i64 y2) := (blk_cell (blk_drew HB.out) 2).trans rfl
                    have KA := Aside0.mk (blk_drew HA.out)
                    have KB := Aside0.mk (blk_drew HB.out)
                    have KD := Aside0.mk (below_drew HD.out)
                    refine wp_region_still_tail 7 (by kernel_rfl) (by kernel_rfl) ?_
                    change wpStill Try.prog _ v41.drew (fun a' => wpList Try.prog _ _ _ a' v41.drew) _ _
                    generalize v41.drew = v42 at KA KB KD ca cb ⊢
                    clear HA HB HD
                    have HA := Aside0.mk KA.out
                    have HB := Aside0.mk KB.out
                    have HD := Aside0.mk KD.out
                    clear KA KB KD
                    simp only [List.take_succ_cons, List.take_zero, List.drop_succ_cons, List.drop_zero]
                    repeat still_step
                    refine wpStill_nil ?_
                    go_wp2_with fail
                    refine (syzygyref08_sign.calls (wrap64 (y2 - x2)) _ _ (sgn8_f _)).mono ?_
                    rintro e w1 ⟨rfl, ⟨nd, rfl⟩⟩
                    have HZ := Aside0.mk (pw_below_drewN HD.out nd)
                    go_wp2
                    go_ret
                    exact ⟨rfl, HZ.out⟩
                  | false =>
                    cases n1 : (x1 != y1) with
                    | true =>
                      simp only [cond_true, cond_false]
                      go_enter Try.func23, Try.ntmps23
                      go_wp2_with fail
                      generalize (w.alloc (.cells #[.int .i64 x0, .int .i64 x1, .int .i64 x2, .int .i64 x3] 36)).alloc (.cells #[.int .i64 y0, .int .i64 y1, .int .i64 y2, .int .i64 y3] 36) = t0 at HA HB HD ⊢
                      obtain ⟨a0, a1, a2, a3⟩ := cells4 HA.out
                      go_wp2_with fail
                      refine (HM.out t0).mono ?_
                      rw [hv]
                      rintro e t1 ⟨rfl, hb⟩
                      have HA1 := Aside0.mk (blk_below HA.out hb)
                      have HB1 := Aside0.mk (blk_below HB.out hb)
                      have HD1 := Aside0.mk (HD.out.trans (hb.mono HD.out.size))
                      clear hb HA HB HD
                      clear a0 a1 a2 a3
                      obtain ⟨b0, b1, b2, b3⟩ := cells4 HB1.out
                      go_wp2_with fail
                      refine (HN.out t1).mono ?_
                      rw [hu]
                      rintro e t2 ⟨rfl, hb⟩
                      have HA2 := Aside0.mk (blk_below HA1.out hb)
                      have HB2 := Aside0.mk (blk_below HB1.out hb)
                      have HD2 := Aside0.mk (HD1.out.trans (hb.mono HD1.out.size))
                      clear hb HA1 HB1 HD1
                      clear b0 b1 b2 b3
                      obtain ⟨a0, a1, a2, a3⟩ := cells4 HA2.out
                      obtain ⟨b0, b1, b2, b3⟩ := cells4 HB2.out
                      go_wp2_with fail
                      clear a0 a1 a2 a3 b0 b1 b2 b3
                      refine start_ (n := 5) (S := fun w' => w'.cell? ⟨w.heap.size, 0, none⟩ = some (.int .i64 x0) ∧ w'.cell? ⟨w.heap.size, 1, none⟩ = some (.int .i64 x1) ∧ w'.cell? ⟨w.heap.size, 2, none⟩ = some (.int .i64 x2) ∧ w'.cell? ⟨w.heap.size, 3, none⟩ = some (.int .i64 x3) ∧ w'.cell? ⟨w.heap.size + 1, 0, none⟩ = some (.int .i64 y0) ∧ w'.cell? ⟨w.heap.size + 1, 1, none⟩ = some (.int .i64 y1) ∧ w'.cell? ⟨w.heap.size + 1, 2, none⟩ = some (.int .i64 y2) ∧ w'.cell? ⟨w.heap.size + 1, 3, none⟩ = some (.int .i64 y3)) (ds := []) #[false, false, false, false, false] (by kernel_rfl) rfl rfl ⟨(blk_cell (blk_drew HA2.out) 0).trans rfl, (blk_cell (blk_drew HA2.out) 1).trans rfl, (blk_cell (blk_drew HA2.out) 2).trans rfl, (blk_cell (blk_drew HA2.out) 3).trans rfl, (blk_cell (blk_drew HB2.out) 0).trans rfl, (blk_cell (blk_drew HB2.out) 1).trans rfl, (blk_cell (blk_drew HB2.out) 2).trans rfl, (blk_cell (blk_drew HB2.out) 3).trans rfl⟩ (fun hHeld => ?_)
                      have HG20 := Aside0.mk (blk_drew HA2.out)
                      have HH20 := Aside0.mk (blk_drew HB2.out)
                      have HJ20 := Aside0.mk (below_drew HD2.out)
                      generalize t2.drew = v20 at HG20 HH20 HJ20 hHeld ⊢
                      clear HA2 HB2 HD2
                      refine take_ (i := 0) (N := some 29) (v := ?_) (a' := ?_) #[true, false, false, false, false] rfl rfl (by kernel_rfl) (fun _ _ _ h => h) (Or.inl ⟨by rfl, ?_⟩) hHeld ?_ ?_
                      rotate_left
                      · rintro w' ⟨s0_, s1_, s2_, s3_, s4_, s5_, s6_, s7_⟩
                        go_simp
                        with_reducible rfl
                      rotate_left
                      · simp only [Act.put, List.setIfInBounds_toArray, List.set_cons_zero, List.set_cons_succ, i64_w, i32_w]
                        rfl
                      refine take_ (i := 2) (N := some 31) (v := ?_) (a' := ?_) #[true, false, true, false, false] rfl rfl (by kernel_rfl) (fun _ _ _ h => h) (Or.inl ⟨by rfl, ?_⟩) hHeld ?_ ?_
                      rotate_left
                      · rintro w' ⟨s0_, s1_, s2_, s3_, s4_, s5_, s6_, s7_⟩
                        go_simp
                        with_reducible rfl
                      rotate_left
                      · simp only [Act.put, List.setIfInBounds_toArray, List.set_cons_zero, List.set_cons_succ, i64_w, i32_w]
                        rfl
                      refine one_ (i := 1) (N := some 30) #[true, true, true, false, false] rfl rfl (by kernel_rfl) (by decide) (fun K hK => ?_)
                      refine goes_ Try.func56 (by kernel_rfl) rfl #[.agg #[.int .i64 x0, .int .i64 x1, .int .i64 x2, .int .i64 x3]] (by rfl) rfl rfl (by (try simp only [List.map_toArray, List.map_cons, List.map_nil]); first | done | rfl) ?_
                      refine (HE.out _).mono ?_
                      rintro e v21 ⟨rfl, hb⟩
                      have HG21 := Aside0.mk (blk_below HG20.out hb)
                      have HH21 := Aside0.mk (blk_below HH20.out hb)
                      have HJ21 := Aside0.mk (HJ20.out.trans (hb.mono HJ20.out.size))
                      clear hb
                      refine ⟨_, rfl, ?_⟩
                      refine hK.out _ _ ⟨(blk_cell HG21.out 0).trans rfl, (blk_cell HG21.out 1).trans rfl, (blk_cell HG21.out 2).trans rfl, (blk_cell HG21.out 3).trans rfl, (blk_cell HH21.out 0).trans rfl, (blk_cell HH21.out 1).trans rfl, (blk_cell HH21.out 2).trans rfl, (blk_cell HH21.out 3).trans rfl⟩ (fun hHeld => ?_)
                      clear hK K
                      refine norm_ (a' := ?_) ?_ ?_
                      rotate_left
                      · simp only [Act.put, List.setIfInBounds_toArray, List.set_cons_zero, List.set_cons_succ, i64_w, i32_w]
                        rfl
                      refine one_ (i := 3) (N := some 32) #[true, true, true, true, false] rfl rfl (by kernel_rfl) (by decide) (fun K hK => ?_)
                      refine goes_ Try.func56 (by kernel_rfl) rfl #[.agg #[.int .i64 y0, .int .i64 y1, .int .i64 y2, .int .i64 y3]] (by rfl) rfl rfl (by (try simp only [List.map_toArray, List.map_cons, List.map_nil]); first | done | rfl) ?_
                      refine (HF.out _).mono ?_
                      rintro e v22 ⟨rfl, hb⟩
                      have HG22 := Aside0.mk (blk_below HG21.out hb)
                      have HH22 := Aside0.mk (blk_below HH21.out hb)
                      have HJ22 := Aside0.mk (HJ21.out.trans (hb.mono HJ21.out.size))
                      clear hb
                      refine ⟨_, rfl, ?_⟩
                      refine hK.out _ _ ⟨(blk_cell HG22.out 0).trans rfl, (blk_cell HG22.out 1).trans rfl, (blk_cell HG22.out 2).trans rfl, (blk_cell HG22.out 3).trans rfl, (blk_cell HH22.out 0).trans rfl, (blk_cell HH22.out 1).trans rfl, (blk_cell HH22.out 2).trans rfl, (blk_cell HH22.out 3).trans rfl⟩ (fun hHeld => ?_)
                      clear hK K
                      refine norm_ (a' := ?_) ?_ ?_
                      rotate_left
                      · simp only [Act.put, List.setIfInBounds_toArray, List.set_cons_zero, List.set_cons_succ, i64_w, i32_w]
                        rfl
                      refine pure_ (i := 4) (N := some 33) (v := ?_) (a' := ?_) #[true, true, true, true, true] rfl rfl (by kernel_rfl) (fun _ _ _ h => h) (Or.inl ⟨by rfl, ?_⟩) ?_ ?_
                      rotate_left
                      · intro w'
                        go_simp
                        with_reducible rfl
                      rotate_left
                      · simp only [Act.put, List.setIfInBounds_toArray, List.set_cons_zero, List.set_cons_succ, i64_w, i32_w]
                        rfl
                      refine done_ (by kernel_rfl) ?_
                      have HA2 := Aside0.mk HG22.out
                      have HB2 := Aside0.mk HH22.out
                      have HD2 := Aside0.mk HJ22.out
                      clear HG22 HH22 HJ22
                      clear hHeld
                      go_wp2_with fail
                      have HA := Aside0.mk HA2.out
                      have HB := Aside0.mk HB2.out
                      have HD := Aside0.mk HD2.out
                      clear HA2 HB2 HD2
                      refine wp_loop_rounds 3 ?_
                      rw [rounds_succ]
                      go_wp2
                      have ca : (v22.drew).cell? ⟨w.heap.size, 3, none⟩ = some (.int .i64 x3) := (blk_cell (blk_drew HA.out) 3).trans rfl
                      have cb : (v22.drew).cell? ⟨w.heap.size + 1, 3, none⟩ = some (.int .i64 y3) := (blk_cell (blk_drew HB.out) 3).trans rfl
                      have KA := Aside0.mk (blk_drew HA.out)
                      have KB := Aside0.mk (blk_drew HB.out)
                      have KD := Aside0.mk (below_drew HD.out)
                      refine wp_region_still_tail 6 (by kernel_rfl) (by kernel_rfl) ?_
                      change wpStill Try.prog _ v22.drew (fun a' => wpList Try.prog _ _ _ a' v22.drew) _ _
                      generalize v22.drew = v40 at KA KB KD ca cb ⊢
                      clear HA HB HD
                      have HA := Aside0.mk KA.out
                      have HB := Aside0.mk KB.out
                      have HD := Aside0.mk KD.out
                      clear KA KB KD
                      simp only [List.take_succ_cons, List.take_zero, List.drop_succ_cons, List.drop_zero]
                      repeat still_step
                      refine wpStill_nil ?_
                      go_wp2_with fail
                      clear ca cb
                      rw [rounds_succ]
                      go_wp2
                      have ca : (v40.drew).cell? ⟨w.heap.size, 2, none⟩ = some (.int .i64 x2) := (blk_cell (blk_drew HA.out) 2).trans rfl
                      have cb : (v40.drew).cell? ⟨w.heap.size + 1, 2, none⟩ = some (.int .i64 y2) := (blk_cell (blk_drew HB.out) 2).trans rfl
                      have KA := Aside0.mk (blk_drew HA.out)
                      have KB := Aside0.mk (blk_drew HB.out)
                      have KD := Aside0.mk (below_drew HD.out)
                      refine wp_region_still_tail 6 (by kernel_rfl) (by kernel_rfl) ?_
                      change wpStill Try.prog _ v40.drew (fun a' => wpList Try.prog _ _ _ a' v40.drew) _ _
                      generalize v40.drew = v41 at KA KB KD ca cb ⊢
                      clear HA HB HD
                      have HA := Aside0.mk KA.out
                      have HB := Aside0.mk KB.out
                      have HD := Aside0.mk KD.out
                      clear KA KB KD
                      simp only [List.take_succ_cons, List.take_zero, List.drop_succ_cons, List.drop_zero]
                      repeat still_step
                      refine wpStill_nil ?_
                      go_wp2_with fail
                      clear ca cb
                      rw [rounds_succ]
                      go_wp2
                      have ca : (v41.drew).cell? ⟨w.heap.size, 1, none⟩ = some (.int .i64 x1) := (blk_cell (blk_drew HA.out) 1).trans rfl
                      have cb : (v41.drew).cell? ⟨w.heap.size + 1, 1, none⟩ = some (.int .i64 y1) := (blk_cell (blk_drew HB.out) 1).trans rfl
                      have KA := Aside0.mk (blk_drew HA.out)
                      have KB := Aside0.mk (blk_drew HB.out)
                      have KD := Aside0.mk (below_drew HD.out)
                      refine wp_region_still_tail 6 (by kernel_rfl) (by kernel_rfl) ?_
                      change wpStill Try.prog _ v41.drew (fun a' => wpList Try.prog _ _ _ a' v41.drew) _ _
                      generalize v41.drew = v42 at KA KB KD ca cb ⊢
                      clear HA HB HD
                      have HA := Aside0.mk KA.out
                      have HB := Aside0.mk KB.out
                      have HD := Aside0.mk KD.out
                      clear KA KB KD
                      simp only [List.take_succ_cons, List.take_zero, List.drop_succ_cons, List.drop_zero]
                      repeat still_step
                      refine wpStill_nil ?_
                      go_wp2_with fail
                      have ca : (v42.drew).cell? ⟨w.heap.size, 1, none⟩ = some (.int .i64 x1) := (blk_cell (blk_drew HA.out) 1).trans rfl
                      have cb : (v42.drew).cell? ⟨w.heap.size + 1, 1, none⟩ = some (.int .i64 y1) := (blk_cell (blk_drew HB.out) 1).trans rfl
                      have KA := Aside0.mk (blk_drew HA.out)
                      have KB := Aside0.mk (blk_drew HB.out)
                      have KD := Aside0.mk (below_drew HD.out)
                      refine wp_region_still_tail 7 (by kernel_rfl) (by kernel_rfl) ?_
                      change wpStill Try.prog _ v42.drew (fun a' => wpList Try.prog _ _ _ a' v42.drew) _ _
                      generalize v42.drew = v43 at KA KB KD ca cb ⊢
                      clear HA HB HD
                      have HA := Aside0.mk KA.out
                      have HB := Aside0.mk KB.out
                      have HD := Aside0.mk KD.out
                      clear KA KB KD
                      simp only [List.take_succ_cons, List.take_zero, List.drop_succ_cons, List.drop_zero]
                      repeat still_step
                      refine wpStill_nil ?_
                      go_wp2_with fail
                      refine (syzygyref08_sign.calls (wrap64 (y1 - x1)) _ _ (sgn8_f _)).mono ?_
                      rintro e w1 ⟨rfl, ⟨nd, rfl⟩⟩
                      have HZ := Aside0.mk (pw_below_drewN HD.out nd)
                      go_wp2
                      go_ret
                      exact ⟨rfl, HZ.out⟩
                    | false =>
                      cases n0 : (x0 != y0) with
                      | true =>
                        simp only [cond_true, cond_false]
                        go_enter Try.func23, Try.ntmps23
                        go_wp2_with fail
                        generalize (w.alloc (.cells #[.int .i64 x0, .int .i64 x1, .int .i64 x2, .int .i64 x3] 36)).alloc (.cells #[.int .i64 y0, .int .i64 y1, .int .i64 y2, .int .i64 y3] 36) = t0 at HA HB HD ⊢
                        obtain ⟨a0, a1, a2, a3⟩ := cells4 HA.out
                        go_wp2_with fail
                        refine (HM.out t0).mono ?_
                        rw [hv]
                        rintro e t1 ⟨rfl, hb⟩
                        have HA1 := Aside0.mk (blk_below HA.out hb)
                        have HB1 := Aside0.mk (blk_below HB.out hb)
                        have HD1 := Aside0.mk (HD.out.trans (hb.mono HD.out.size))
                        clear hb HA HB HD
                        clear a0 a1 a2 a3
                        obtain ⟨b0, b1, b2, b3⟩ := cells4 HB1.out
                        go_wp2_with fail
                        refine (HN.out t1).mono ?_
                        rw [hu]
                        rintro e t2 ⟨rfl, hb⟩
                        have HA2 := Aside0.mk (blk_below HA1.out hb)
                        have HB2 := Aside0.mk (blk_below HB1.out hb)
                        have HD2 := Aside0.mk (HD1.out.trans (hb.mono HD1.out.size))
                        clear hb HA1 HB1 HD1
                        clear b0 b1 b2 b3
                        obtain ⟨a0, a1, a2, a3⟩ := cells4 HA2.out
                        obtain ⟨b0, b1, b2, b3⟩ := cells4 HB2.out
                        go_wp2_with fail
                        clear a0 a1 a2 a3 b0 b1 b2 b3
                        refine start_ (n := 5) (S := fun w' => w'.cell? ⟨w.heap.size, 0, none⟩ = some (.int .i64 x0) ∧ w'.cell? ⟨w.heap.size, 1, none⟩ = some (.int .i64 x1) ∧ w'.cell? ⟨w.heap.size, 2, none⟩ = some (.int .i64 x2) ∧ w'.cell? ⟨w.heap.size, 3, none⟩ = some (.int .i64 x3) ∧ w'.cell? ⟨w.heap.size + 1, 0, none⟩ = some (.int .i64 y0) ∧ w'.cell? ⟨w.heap.size + 1, 1, none⟩ = some (.int .i64 y1) ∧ w'.cell? ⟨w.heap.size + 1, 2, none⟩ = some (.int .i64 y2) ∧ w'.cell? ⟨w.heap.size + 1, 3, none⟩ = some (.int .i64 y3)) (ds := []) #[false, false, false, false, false] (by kernel_rfl) rfl rfl ⟨(blk_cell (blk_drew HA2.out) 0).trans rfl, (blk_cell (blk_drew HA2.out) 1).trans rfl, (blk_cell (blk_drew HA2.out) 2).trans rfl, (blk_cell (blk_drew HA2.out) 3).trans rfl, (blk_cell (blk_drew HB2.out) 0).trans rfl, (blk_cell (blk_drew HB2.out) 1).trans rfl, (blk_cell (blk_drew HB2.out) 2).trans rfl, (blk_cell (blk_drew HB2.out) 3).trans rfl⟩ (fun hHeld => ?_)
                        have HG20 := Aside0.mk (blk_drew HA2.out)
                        have HH20 := Aside0.mk (blk_drew HB2.out)
                        have HJ20 := Aside0.mk (below_drew HD2.out)
                        generalize t2.drew = v20 at HG20 HH20 HJ20 hHeld ⊢
                        clear HA2 HB2 HD2
                        refine take_ (i := 0) (N := some 29) (v := ?_) (a' := ?_) #[true, false, false, false, false] rfl rfl (by kernel_rfl) (fun _ _ _ h => h) (Or.inl ⟨by rfl, ?_⟩) hHeld ?_ ?_
                        rotate_left
                        · rintro w' ⟨s0_, s1_, s2_, s3_, s4_, s5_, s6_, s7_⟩
                          go_simp
                          with_reducible rfl
                        rotate_left
                        · simp only [Act.put, List.setIfInBounds_toArray, List.set_cons_zero, List.set_cons_succ, i64_w, i32_w]
                          rfl
                        refine take_ (i := 2) (N := some 31) (v := ?_) (a' := ?_) #[true, false, true, false, false] rfl rfl (by kernel_rfl) (fun _ _ _ h => h) (Or.inl ⟨by rfl, ?_⟩) hHeld ?_ ?_
                        rotate_left
                        · rintro w' ⟨s0_, s1_, s2_, s3_, s4_, s5_, s6_, s7_⟩
                          go_simp
                          with_reducible rfl
                        rotate_left
                        · simp only [Act.put, List.setIfInBounds_toArray, List.set_cons_zero, List.set_cons_succ, i64_w, i32_w]
                          rfl
                        refine one_ (i := 1) (N := some 30) #[true, true, true, false, false] rfl rfl (by kernel_rfl) (by decide) (fun K hK => ?_)
                        refine goes_ Try.func56 (by kernel_rfl) rfl #[.agg #[.int .i64 x0, .int .i64 x1, .int .i64 x2, .int .i64 x3]] (by rfl) rfl rfl (by (try simp only [List.map_toArray, List.map_cons, List.map_nil]); first | done | rfl) ?_
                        refine (HE.out _).mono ?_
                        rintro e v21 ⟨rfl, hb⟩
                        have HG21 := Aside0.mk (blk_below HG20.out hb)
                        have HH21 := Aside0.mk (blk_below HH20.out hb)
                        have HJ21 := Aside0.mk (HJ20.out.trans (hb.mono HJ20.out.size))
                        clear hb
                        refine ⟨_, rfl, ?_⟩
                        refine hK.out _ _ ⟨(blk_cell HG21.out 0).trans rfl, (blk_cell HG21.out 1).trans rfl, (blk_cell HG21.out 2).trans rfl, (blk_cell HG21.out 3).trans rfl, (blk_cell HH21.out 0).trans rfl, (blk_cell HH21.out 1).trans rfl, (blk_cell HH21.out 2).trans rfl, (blk_cell HH21.out 3).trans rfl⟩ (fun hHeld => ?_)
                        clear hK K
                        refine norm_ (a' := ?_) ?_ ?_
                        rotate_left
                        · simp only [Act.put, List.setIfInBounds_toArray, List.set_cons_zero, List.set_cons_succ, i64_w, i32_w]
                          rfl
                        refine one_ (i := 3) (N := some 32) #[true, true, true, true, false] rfl rfl (by kernel_rfl) (by decide) (fun K hK => ?_)
                        refine goes_ Try.func56 (by kernel_rfl) rfl #[.agg #[.int .i64 y0, .int .i64 y1, .int .i64 y2, .int .i64 y3]] (by rfl) rfl rfl (by (try simp only [List.map_toArray, List.map_cons, List.map_nil]); first | done | rfl) ?_
                        refine (HF.out _).mono ?_
                        rintro e v22 ⟨rfl, hb⟩
                        have HG22 := Aside0.mk (blk_below HG21.out hb)
                        have HH22 := Aside0.mk (blk_below HH21.out hb)
                        have HJ22 := Aside0.mk (HJ21.out.trans (hb.mono HJ21.out.size))
                        clear hb
                        refine ⟨_, rfl, ?_⟩
                        refine hK.out _ _ ⟨(blk_cell HG22.out 0).trans rfl, (blk_cell HG22.out 1).trans rfl, (blk_cell HG22.out 2).trans rfl, (blk_cell HG22.out 3).trans rfl, (blk_cell HH22.out 0).trans rfl, (blk_cell HH22.out 1).trans rfl, (blk_cell HH22.out 2).trans rfl, (blk_cell HH22.out 3).trans rfl⟩ (fun hHeld => ?_)
                        clear hK K
                        refine norm_ (a' := ?_) ?_ ?_
                        rotate_left
                        · simp only [Act.put, List.setIfInBounds_toArray, List.set_cons_zero, List.set_cons_succ, i64_w, i32_w]
                          rfl
                        refine pure_ (i := 4) (N := some 33) (v := ?_) (a' := ?_) #[true, true, true, true, true] rfl rfl (by kernel_rfl) (fun _ _ _ h => h) (Or.inl ⟨by rfl, ?_⟩) ?_ ?_
                        rotate_left
                        · intro w'
                          go_simp
                          with_reducible rfl
                        rotate_left
                        · simp only [Act.put, List.setIfInBounds_toArray, List.set_cons_zero, List.set_cons_succ, i64_w, i32_w]
                          rfl
                        refine done_ (by kernel_rfl) ?_
                        have HA2 := Aside0.mk HG22.out
                        have HB2 := Aside0.mk HH22.out
                        have HD2 := Aside0.mk HJ22.out
                        clear HG22 HH22 HJ22
                        clear hHeld
                        go_wp2_with fail
                        have HA := Aside0.mk HA2.out
                        have HB := Aside0.mk HB2.out
                        have HD := Aside0.mk HD2.out
                        clear HA2 HB2 HD2
                        refine wp_loop_rounds 4 ?_
                        rw [rounds_succ]
                        go_wp2
                        have ca : (v22.drew).cell? ⟨w.heap.size, 3, none⟩ = some (.int .i64 x3) := (blk_cell (blk_drew HA.out) 3).trans rfl
                        have cb : (v22.drew).cell? ⟨w.heap.size + 1, 3, none⟩ = some (.int .i64 y3) := (blk_cell (blk_drew HB.out) 3).trans rfl
                        have KA := Aside0.mk (blk_drew HA.out)
                        have KB := Aside0.mk (blk_drew HB.out)
                        have KD := Aside0.mk (below_drew HD.out)
                        refine wp_region_still_tail 6 (by kernel_rfl) (by kernel_rfl) ?_
                        change wpStill Try.prog _ v22.drew (fun a' => wpList Try.prog _ _ _ a' v22.drew) _ _
                        generalize v22.drew = v40 at KA KB KD ca cb ⊢
                        clear HA HB HD
                        have HA := Aside0.mk KA.out
                        have HB := Aside0.mk KB.out
                        have HD := Aside0.mk KD.out
                        clear KA KB KD
                        simp only [List.take_succ_cons, List.take_zero, List.drop_succ_cons, List.drop_zero]
                        repeat still_step
                        refine wpStill_nil ?_
                        go_wp2_with fail
                        clear ca cb
                        rw [rounds_succ]
                        go_wp2
                        have ca : (v40.drew).cell? ⟨w.heap.size, 2, none⟩ = some (.int .i64 x2) := (blk_cell (blk_drew HA.out) 2).trans rfl
                        have cb : (v40.drew).cell? ⟨w.heap.size + 1, 2, none⟩ = some (.int .i64 y2) := (blk_cell (blk_drew HB.out) 2).trans rfl
                        have KA := Aside0.mk (blk_drew HA.out)
                        have KB := Aside0.mk (blk_drew HB.out)
                        have KD := Aside0.mk (below_drew HD.out)
                        refine wp_region_still_tail 6 (by kernel_rfl) (by kernel_rfl) ?_
                        change wpStill Try.prog _ v40.drew (fun a' => wpList Try.prog _ _ _ a' v40.drew) _ _
                        generalize v40.drew = v41 at KA KB KD ca cb ⊢
                        clear HA HB HD
                        have HA := Aside0.mk KA.out
                        have HB := Aside0.mk KB.out
                        have HD := Aside0.mk KD.out
                        clear KA KB KD
                        simp only [List.take_succ_cons, List.take_zero, List.drop_succ_cons, List.drop_zero]
                        repeat still_step
                        refine wpStill_nil ?_
                        go_wp2_with fail
                        clear ca cb
                        rw [rounds_succ]
                        go_wp2
                        have ca : (v41.drew).cell? ⟨w.heap.size, 1, none⟩ = some (.int .i64 x1) := (blk_cell (blk_drew HA.out) 1).trans rfl
                        have cb : (v41.drew).cell? ⟨w.heap.size + 1, 1, none⟩ = some (.int .i64 y1) := (blk_cell (blk_drew HB.out) 1).trans rfl
                        have KA := Aside0.mk (blk_drew HA.out)
                        have KB := Aside0.mk (blk_drew HB.out)
                        have KD := Aside0.mk (below_drew HD.out)
                        refine wp_region_still_tail 6 (by kernel_rfl) (by kernel_rfl) ?_
                        change wpStill Try.prog _ v41.drew (fun a' => wpList Try.prog _ _ _ a' v41.drew) _ _
                        generalize v41.drew = v42 at KA KB KD ca cb ⊢
                        clear HA HB HD
                        have HA := Aside0.mk KA.out
                        have HB := Aside0.mk KB.out
                        have HD := Aside0.mk KD.out
                        clear KA KB KD
                        simp only [List.take_succ_cons, List.take_zero, List.drop_succ_cons, List.drop_zero]
                        repeat still_step
                        refine wpStill_nil ?_
                        go_wp2_with fail
                        clear ca cb
                        rw [rounds_succ]
                        go_wp2
                        have ca : (v42.drew).cell? ⟨w.heap.size, 0, none⟩ = some (.int .i64 x0) := (blk_cell (blk_drew HA.out) 0).trans rfl
                        have cb : (v42.drew).cell? ⟨w.heap.size + 1, 0, none⟩ = some (.int .i64 y0) := (blk_cell (blk_drew HB.out) 0).trans rfl
                        have KA := Aside0.mk (blk_drew HA.out)
                        have KB := Aside0.mk (blk_drew HB.out)
                        have KD := Aside0.mk (below_drew HD.out)
                        refine wp_region_still_tail 6 (by kernel_rfl) (by kernel_rfl) ?_
                        change wpStill Try.prog _ v42.drew (fun a' => wpList Try.prog _ _ _ a' v42.drew) _ _
                        generalize v42.drew = v43 at KA KB KD ca cb ⊢
                        clear HA HB HD
                        have HA := Aside0.mk KA.out
                        have HB := Aside0.mk KB.out
                        have HD := Aside0.mk KD.out
                        clear KA KB KD
                        simp only [List.take_succ_cons, List.take_zero, List.drop_succ_cons, List.drop_zero]
                        repeat still_step
                        refine wpStill_nil ?_
                        go_wp2_with fail
                        have ca : (v43.drew).cell? ⟨w.heap.size, 0, none⟩ = some (.int .i64 x0) := (blk_cell (blk_drew HA.out) 0).trans rfl
                        have cb : (v43.drew).cell? ⟨w.heap.size + 1, 0, none⟩ = some (.int .i64 y0) := (blk_cell (blk_drew HB.out) 0).trans rfl
                        have KA := Aside0.mk (blk_drew HA.out)
                        have KB := Aside0.mk (blk_drew HB.out)
                        have KD := Aside0.mk (below_drew HD.out)
                        refine wp_region_still_tail 7 (by kernel_rfl) (by kernel_rfl) ?_
                        change wpStill Try.prog _ v43.drew (fun a' => wpList Try.prog _ _ _ a' v43.drew) _ _
                        generalize v43.drew = v44 at KA KB KD ca cb ⊢
                        clear HA HB HD
                        have HA := Aside0.mk KA.out
                        have HB := Aside0.mk KB.out
                        have HD := Aside0.mk KD.out
                        clear KA KB KD
                        simp only [List.take_succ_cons, List.take_zero, List.drop_succ_cons, List.drop_zero]
                        repeat still_step
                        refine wpStill_nil ?_
                        go_wp2_with fail
                        refine (syzygyref08_sign.calls (wrap64 (y0 - x0)) _ _ (sgn8_f _)).mono ?_
                        rintro e w1 ⟨rfl, ⟨nd, rfl⟩⟩
                        have HZ := Aside0.mk (pw_below_drewN HD.out nd)
                        go_wp2
                        go_ret
                        exact ⟨rfl, HZ.out⟩
                      | false =>
                        simp only [cond_true, cond_false]
                        go_enter Try.func23, Try.ntmps23
                        go_wp2_with fail
                        generalize (w.alloc (.cells #[.int .i64 x0, .int .i64 x1, .int .i64 x2, .int .i64 x3] 36)).alloc (.cells #[.int .i64 y0, .int .i64 y1, .int .i64 y2, .int .i64 y3] 36) = t0 at HA HB HD ⊢
                        obtain ⟨a0, a1, a2, a3⟩ := cells4 HA.out
                        go_wp2_with fail
                        refine (HM.out t0).mono ?_
                        rw [hv]
                        rintro e t1 ⟨rfl, hb⟩
                        have HA1 := Aside0.mk (blk_below HA.out hb)
                        have HB1 := Aside0.mk (blk_below HB.out hb)
                        have HD1 := Aside0.mk (HD.out.trans (hb.mono HD.out.size))
                        clear hb HA HB HD
                        clear a0 a1 a2 a3
                        obtain ⟨b0, b1, b2, b3⟩ := cells4 HB1.out
                        go_wp2_with fail
                        refine (HN.out t1).mono ?_
                        rw [hu]
                        rintro e t2 ⟨rfl, hb⟩
                        have HA2 := Aside0.mk (blk_below HA1.out hb)
                        have HB2 := Aside0.mk (blk_below HB1.out hb)
                        have HD2 := Aside0.mk (HD1.out.trans (hb.mono HD1.out.size))
                        clear hb HA1 HB1 HD1
                        clear b0 b1 b2 b3
                        obtain ⟨a0, a1, a2, a3⟩ := cells4 HA2.out
                        obtain ⟨b0, b1, b2, b3⟩ := cells4 HB2.out
                        go_wp2_with fail
                        clear a0 a1 a2 a3 b0 b1 b2 b3
                        refine start_ (n := 5) (S := fun w' => w'.cell? ⟨w.heap.size, 0, none⟩ = some (.int .i64 x0) ∧ w'.cell? ⟨w.heap.size, 1, none⟩ = some (.int .i64 x1) ∧ w'.cell? ⟨w.heap.size, 2, none⟩ = some (.int .i64 x2) ∧ w'.cell? ⟨w.heap.size, 3, none⟩ = some (.int .i64 x3) ∧ w'.cell? ⟨w.heap.size + 1, 0, none⟩ = some (.int .i64 y0) ∧ w'.cell? ⟨w.heap.size + 1, 1, none⟩ = some (.int .i64 y1) ∧ w'.cell? ⟨w.heap.size + 1, 2, none⟩ = some (.int .i64 y2) ∧ w'.cell? ⟨w.heap.size + 1, 3, none⟩ = some (.int .i64 y3)) (ds := []) #[false, false, false, false, false] (by kernel_rfl) rfl rfl ⟨(blk_cell (blk_drew HA2.out) 0).trans rfl, (blk_cell (blk_drew HA2.out) 1).trans rfl, (blk_cell (blk_drew HA2.out) 2).trans rfl, (blk_cell (blk_drew HA2.out) 3).trans rfl, (blk_cell (blk_drew HB2.out) 0).trans rfl, (blk_cell (blk_drew HB2.out) 1).trans rfl, (blk_cell (blk_drew HB2.out) 2).trans rfl, (blk_cell (blk_drew HB2.out) 3).trans rfl⟩ (fun hHeld => ?_)
                        have HG20 := Aside0.mk (blk_drew HA2.out)
                        have HH20 := Aside0.mk (blk_drew HB2.out)
                        have HJ20 := Aside0.mk (below_drew HD2.out)
                        generalize t2.drew = v20 at HG20 HH20 HJ20 hHeld ⊢
                        clear HA2 HB2 HD2
                        refine take_ (i := 0) (N := some 29) (v := ?_) (a' := ?_) #[true, false, false, false, false] rfl rfl (by kernel_rfl) (fun _ _ _ h => h) (Or.inl ⟨by rfl, ?_⟩) hHeld ?_ ?_
                        rotate_left
                        · rintro w' ⟨s0_, s1_, s2_, s3_, s4_, s5_, s6_, s7_⟩
                          go_simp
                          with_reducible rfl
                        rotate_left
                        · simp only [Act.put, List.setIfInBounds_toArray, List.set_cons_zero, List.set_cons_succ, i64_w, i32_w]
                          rfl
                        refine take_ (i := 2) (N := some 31) (v := ?_) (a' := ?_) #[true, false, true, false, false] rfl rfl (by kernel_rfl) (fun _ _ _ h => h) (Or.inl ⟨by rfl, ?_⟩) hHeld ?_ ?_
                        rotate_left
                        · rintro w' ⟨s0_, s1_, s2_, s3_, s4_, s5_, s6_, s7_⟩
                          go_simp
                          with_reducible rfl
                        rotate_left
                        · simp only [Act.put, List.setIfInBounds_toArray, List.set_cons_zero, List.set_cons_succ, i64_w, i32_w]
                          rfl
                        refine one_ (i := 1) (N := some 30) #[true, true, true, false, false] rfl rfl (by kernel_rfl) (by decide) (fun K hK => ?_)
                        refine goes_ Try.func56 (by kernel_rfl) rfl #[.agg #[.int .i64 x0, .int .i64 x1, .int .i64 x2, .int .i64 x3]] (by rfl) rfl rfl (by (try simp only [List.map_toArray, List.map_cons, List.map_nil]); first | done | rfl) ?_
                        refine (HE.out _).mono ?_
                        rintro e v21 ⟨rfl, hb⟩
                        have HG21 := Aside0.mk (blk_below HG20.out hb)
                        have HH21 := Aside0.mk (blk_below HH20.out hb)
                        have HJ21 := Aside0.mk (HJ20.out.trans (hb.mono HJ20.out.size))
                        clear hb
                        refine ⟨_, rfl, ?_⟩
                        refine hK.out _ _ ⟨(blk_cell HG21.out 0).trans rfl, (blk_cell HG21.out 1).trans rfl, (blk_cell HG21.out 2).trans rfl, (blk_cell HG21.out 3).trans rfl, (blk_cell HH21.out 0).trans rfl, (blk_cell HH21.out 1).trans rfl, (blk_cell HH21.out 2).trans rfl, (blk_cell HH21.out 3).trans rfl⟩ (fun hHeld => ?_)
                        clear hK K
                        refine norm_ (a' := ?_) ?_ ?_
                        rotate_left
                        · simp only [Act.put, List.setIfInBounds_toArray, List.set_cons_zero, List.set_cons_succ, i64_w, i32_w]
                          rfl
                        refine one_ (i := 3) (N := some 32) #[true, true, true, true, false] rfl rfl (by kernel_rfl) (by decide) (fun K hK => ?_)
                        refine goes_ Try.func56 (by kernel_rfl) rfl #[.agg #[.int .i64 y0, .int .i64 y1, .int .i64 y2, .int .i64 y3]] (by rfl) rfl rfl (by (try simp only [List.map_toArray, List.map_cons, List.map_nil]); first | done | rfl) ?_
                        refine (HF.out _).mono ?_
                        rintro e v22 ⟨rfl, hb⟩
                        have HG22 := Aside0.mk (blk_below HG21.out hb)
                        have HH22 := Aside0.mk (blk_below HH21.out hb)
                        have HJ22 := Aside0.mk (HJ21.out.trans (hb.mono HJ21.out.size))
                        clear hb
                        refine ⟨_, rfl, ?_⟩
                        refine hK.out _ _ ⟨(blk_cell HG22.out 0).trans rfl, (blk_cell HG22.out 1).trans rfl, (blk_cell HG22.out 2).trans rfl, (blk_cell HG22.out 3).trans rfl, (blk_cell HH22.out 0).trans rfl, (blk_cell HH22.out 1).trans rfl, (blk_cell HH22.out 2).trans rfl, (blk_cell HH22.out 3).trans rfl⟩ (fun hHeld => ?_)
                        clear hK K
                        refine norm_ (a' := ?_) ?_ ?_
                        rotate_left
                        · simp only [Act.put, List.setIfInBounds_toArray, List.set_cons_zero, List.set_cons_succ, i64_w, i32_w]
                          rfl
                        refine pure_ (i := 4) (N := some 33) (v := ?_) (a' := ?_) #[true, true, true, true, true] rfl rfl (by kernel_rfl) (fun _ _ _ h => h) (Or.inl ⟨by rfl, ?_⟩) ?_ ?_
                        rotate_left
                        · intro w'
                          go_simp
                          with_reducible rfl
                        rotate_left
                        · simp only [Act.put, List.setIfInBounds_toArray, List.set_cons_zero, List.set_cons_succ, i64_w, i32_w]
                          rfl
                        refine done_ (by kernel_rfl) ?_
                        have HA2 := Aside0.mk HG22.out
                        have HB2 := Aside0.mk HH22.out
                        have HD2 := Aside0.mk HJ22.out
                        clear HG22 HH22 HJ22
                        clear hHeld
                        go_wp2_with fail
                        have HA := Aside0.mk HA2.out
                        have HB := Aside0.mk HB2.out
                        have HD := Aside0.mk HD2.out
                        clear HA2 HB2 HD2
                        refine wp_loop_rounds 5 ?_
                        rw [rounds_succ]
                        go_wp2
                        have ca : (v22.drew).cell? ⟨w.heap.size, 3, none⟩ = some (.int .i64 x3) := (blk_cell (blk_drew HA.out) 3).trans rfl
                        have cb : (v22.drew).cell? ⟨w.heap.size + 1, 3, none⟩ = some (.int .i64 y3) := (blk_cell (blk_drew HB.out) 3).trans rfl
                        have KA := Aside0.mk (blk_drew HA.out)
                        have KB := Aside0.mk (blk_drew HB.out)
                        have KD := Aside0.mk (below_drew HD.out)
                        refine wp_region_still_tail 6 (by kernel_rfl) (by kernel_rfl) ?_
                        change wpStill Try.prog _ v22.drew (fun a' => wpList Try.prog _ _ _ a' v22.drew) _ _
                        generalize v22.drew = v40 at KA KB KD ca cb ⊢
                        clear HA HB HD
                        have HA := Aside0.mk KA.out
                        have HB := Aside0.mk KB.out
                        have HD := Aside0.mk KD.out
                        clear KA KB KD
                        simp only [List.take_succ_cons, List.take_zero, List.drop_succ_cons, List.drop_zero]
                        repeat still_step
                        refine wpStill_nil ?_
                        go_wp2_with fail
                        clear ca cb
                        rw [rounds_succ]
                        go_wp2
                        have ca : (v40.drew).cell? ⟨w.heap.size, 2, none⟩ = some (.int .i64 x2) := (blk_cell (blk_drew HA.out) 2).trans rfl
                        have cb : (v40.drew).cell? ⟨w.heap.size + 1, 2, none⟩ = some (.int .i64 y2) := (blk_cell (blk_drew HB.out) 2).trans rfl
                        have KA := Aside0.mk (blk_drew HA.out)
                        have KB := Aside0.mk (blk_drew HB.out)
                        have KD := Aside0.mk (below_drew HD.out)
                        refine wp_region_still_tail 6 (by kernel_rfl) (by kernel_rfl) ?_
                        change wpStill Try.prog _ v40.drew (fun a' => wpList Try.prog _ _ _ a' v40.drew) _ _
                        generalize v40.drew = v41 at KA KB KD ca cb ⊢
                        clear HA HB HD
                        have HA := Aside0.mk KA.out
                        have HB := Aside0.mk KB.out
                        have HD := Aside0.mk KD.out
                        clear KA KB KD
                        simp only [List.take_succ_cons, List.take_zero, List.drop_succ_cons, List.drop_zero]
                        repeat still_step
                        refine wpStill_nil ?_
                        go_wp2_with fail
                        clear ca cb
                        rw [rounds_succ]
                        go_wp2
                        have ca : (v41.drew).cell? ⟨w.heap.size, 1, none⟩ = some (.int .i64 x1) := (blk_cell (blk_drew HA.out) 1).trans rfl
                        have cb : (v41.drew).cell? ⟨w.heap.size + 1, 1, none⟩ = some (.int .i64 y1) := (blk_cell (blk_drew HB.out) 1).trans rfl
                        have KA := Aside0.mk (blk_drew HA.out)
                        have KB := Aside0.mk (blk_drew HB.out)
                        have KD := Aside0.mk (below_drew HD.out)
                        refine wp_region_still_tail 6 (by kernel_rfl) (by kernel_rfl) ?_
                        change wpStill Try.prog _ v41.drew (fun a' => wpList Try.prog _ _ _ a' v41.drew) _ _
                        generalize v41.drew = v42 at KA KB KD ca cb ⊢
                        clear HA HB HD
                        have HA := Aside0.mk KA.out
                        have HB := Aside0.mk KB.out
                        have HD := Aside0.mk KD.out
                        clear KA KB KD
                        simp only [List.take_succ_cons, List.take_zero, List.drop_succ_cons, List.drop_zero]
                        repeat still_step
                        refine wpStill_nil ?_
                        go_wp2_with fail
                        clear ca cb
                        rw [rounds_succ]
                        go_wp2
                        have ca : (v42.drew).cell? ⟨w.heap.size, 0, none⟩ = some (.int .i64 x0) := (blk_cell (blk_drew HA.out) 0).trans rfl
                        have cb : (v42.drew).cell? ⟨w.heap.size + 1, 0, none⟩ = some (.int .i64 y0) := (blk_cell (blk_drew HB.out) 0).trans rfl
                        have KA := Aside0.mk (blk_drew HA.out)
                        have KB := Aside0.mk (blk_drew HB.out)
                        have KD := Aside0.mk (below_drew HD.out)
                        refine wp_region_still_tail 6 (by kernel_rfl) (by kernel_rfl) ?_
                        change wpStill Try.prog _ v42.drew (fun a' => wpList Try.prog _ _ _ a' v42.drew) _ _
                        generalize v42.drew = v43 at KA KB KD ca cb ⊢
                        clear HA HB HD
                        have HA := Aside0.mk KA.out
                        have HB := Aside0.mk KB.out
                        have HD := Aside0.mk KD.out
                        clear KA KB KD
                        simp only [List.take_succ_cons, List.take_zero, List.drop_succ_cons, List.drop_zero]
                        repeat still_step
                        refine wpStill_nil ?_
                        go_wp2_with fail
                        clear ca cb
                        rw [rounds_succ]
                        go_wp2
                        go_ret
                        exact ⟨rfl, HD.out⟩
def syzygyref08_Cmp.f (o x0 x1 x2 x3 y0 y1 y2 y3 : Int) : Option Int := some (syzygyref08_Cmp.v o x0 x1 x2 x3 y0 y1 y2 y3)
theorem syzygyref08_Cmp.calls (o x0 x1 x2 x3 y0 y1 y2 y3 : Int) (r : Int) (w : World) (h : syzygyref08_Cmp.f o x0 x1 x2 x3 y0 y1 y2 y3 = some r) :
    Calls Try.prog 23 #[.int .i64 o, .agg #[.int .i64 x0, .int .i64 x1, .int .i64 x2, .int .i64 x3], .agg #[.int .i64 y0, .int .i64 y1, .int .i64 y2, .int .i64 y3]] w fun e w' => e = .returned (.int .i64 r) ∧ Below w.heap.size w w' := by
  obtain rfl := Option.some.inj h
  exact syzygyref08_Cmp.calls_ o x0 x1 x2 x3 y0 y1 y2 y3 w

end Go.Proofs.Ytfoickaangjmnaa.POQueueAll
