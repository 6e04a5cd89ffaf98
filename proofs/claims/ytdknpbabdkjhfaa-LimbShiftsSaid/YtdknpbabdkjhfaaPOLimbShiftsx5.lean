-- Written by a program of this session (pr.py, over the kit's print.py).
import Derived.Test.YtdknpbabdkjhfaaPOLimbShiftsx0
import Derived.Test.YtdknpbabdkjhfaaPOLimbShiftsx1
import Derived.Test.YtdknpbabdkjhfaaPOLimbShiftsx2
import Derived.Test.YtdknpbabdkjhfaaPOLimbShiftsx4
namespace Go.Proofs.Ytdknpbabdkjhfaa.POLimbShifts
open Go.RowKit Go.Proofs.YtdknpbabdkjhfaaN Go.Proofs.YtdknpbabdkjhfaaW.PrintWords Go.Proofs.YtdknpbabdkjhfaaW.PrintLast Go.Proofs.YtdknpbabdkjhfaaW.PrintMore
attribute [local go_sem] max2_int min2_int max_two min_two max_three min_three max_four min_four   -- for this text's walks alone
set_option linter.unusedVariables false
set_option linter.unusedSimpArgs false

/-! ### syzygylaw01_LimbShifts: function 4 -/
def syzygylaw01_LimbShifts.j0 : Nat → List Int → Int → Bool → Option (Bool)
  | 0, _, _, _ => none
  | k + 1, x0, x1, x10 => if x10 = true then ((syzygylaw01_shown.f k).bind fun t289 => (some t289)) else ((limb_Shift.f k x0 x1).bind fun t290 => ((syzygyref01_Shift.f k x0 (mx x1 (-100000))).bind fun t293 => ((syzygyref01_Same.f k t290 t293).bind fun t296 => (some t296))))
def syzygylaw01_LimbShifts.f (k : Nat) (l0 : List Int) (a1 : Int) : Option (Bool) := (syzygylaw01_heavy.f l0 ([] : List Int)).bind fun t287 => (if t287 = true then (syzygylaw01_LimbShifts.j0 k l0 a1 true) else ((syzygylaw01_shown.f k).bind fun t288 => (syzygylaw01_LimbShifts.j0 k l0 a1 (!t288))))
theorem syzygylaw01_LimbShifts.mono_l : ∀ k, (∀ y0 y1 y2, LeO (syzygylaw01_LimbShifts.j0 k y0 y1 y2) (syzygylaw01_LimbShifts.j0 (k + 1) y0 y1 y2))
  | 0 => fun _ _ _ r h => by simp [syzygylaw01_LimbShifts.j0] at h
  | k + 1 => by
    have ih0 := syzygylaw01_LimbShifts.mono_l k
    · intro y0 y1 y2
      unfold syzygylaw01_LimbShifts.j0
      repeat' first
      | (with_reducible exact ih0 _ _ _)
      | (with_reducible exact limb_Shift.mono _ _ _)
      | (with_reducible exact syzygylaw01_shown.mono _)
      | (with_reducible exact syzygyref01_Same.mono _ _ _)
      | (with_reducible exact syzygyref01_Shift.mono _ _ _)
      | (with_reducible exact LeO.refl _)
      | (with_reducible exact LeO.none _)
      | (with_reducible refine LeO.ite ?_ ?_)
      | (with_reducible refine LeO.bind ?_ (fun _ => ?_))
      | exact ih0 _ _ _
      | exact limb_Shift.mono _ _ _
      | exact syzygylaw01_shown.mono _
      | exact syzygyref01_Same.mono _ _ _
      | exact syzygyref01_Shift.mono _ _ _
      | exact LeO.none _
      | refine LeO.ite ?_ ?_
      | refine LeO.bind ?_ (fun _ => ?_)
theorem syzygylaw01_LimbShifts.mono : ∀ a0 a1 k, LeO (syzygylaw01_LimbShifts.f k a0 a1) (syzygylaw01_LimbShifts.f (k + 1) a0 a1) := by
  intro a0 a1 k
  have ih0 := syzygylaw01_LimbShifts.mono_l k
  unfold syzygylaw01_LimbShifts.f
  repeat' first
      | (with_reducible exact ih0 _ _ _)
      | (with_reducible exact limb_Shift.mono _ _ _)
      | (with_reducible exact syzygylaw01_shown.mono _)
      | (with_reducible exact syzygyref01_Same.mono _ _ _)
      | (with_reducible exact syzygyref01_Shift.mono _ _ _)
      | (with_reducible exact LeO.refl _)
      | (with_reducible exact LeO.none _)
      | (with_reducible refine LeO.ite ?_ ?_)
      | (with_reducible refine LeO.bind ?_ (fun _ => ?_))
      | exact ih0 _ _ _
      | exact limb_Shift.mono _ _ _
      | exact syzygylaw01_shown.mono _
      | exact syzygyref01_Same.mono _ _ _
      | exact syzygyref01_Shift.mono _ _ _
      | exact LeO.none _
      | refine LeO.ite ?_ ?_
      | refine LeO.bind ?_ (fun _ => ?_)
set_option maxHeartbeats 8000000 in
set_option maxRecDepth 100000 in
theorem syzygylaw01_LimbShifts.calls (k : Nat) (A0 : Option Addr) (c0 : Nat) (l0 : List Int) (a1 : Int) (w : World) (hr0 : Kd.C (Kd.int .u64) w A0 l0.length l0) (hc0 : l0.length ≤ c0) (h : syzygylaw01_LimbShifts.f k l0 a1 = some true) :
    Calls Try.prog 4 #[.slice A0 l0.length c0, .int .i64 a1] w fun e w' => e = .returned (.bool true) ∧ Below w.heap.size w w' := by
  have HR0 := Aside0.mk hr0
  have HC0 := Aside0.mk hc0
  clear hr0 hc0
  have HB := Aside0.mk (Below.refl w.heap.size w)
  have H : ((syzygylaw01_heavy.f l0 ([] : List Int)).bind fun t287 => (if t287 = true then (syzygylaw01_LimbShifts.j0 k l0 a1 true) else ((syzygylaw01_shown.f k).bind fun t288 => (syzygylaw01_LimbShifts.j0 k l0 a1 (!t288))))) = some true := h
  clear h
  have HC3 := Aside0.mk H
  clear H
  go_enter Try.func4, Try.ntmps4
  go_upto_region 1 with (fail)
  go_cut [10] (fun v10 wc => ∃ (kq : Nat) (x10_2 : Bool), v10 = .bool x10_2 ∧ Aside0 (syzygylaw01_LimbShifts.j0 kq l0 a1 x10_2 = some true) ∧ Aside0 (kq ≤ k) ∧ Aside0 (Below w.heap.size w wc))
  case first =>
    have H := HC3.out
    clear HC3
    replace H := Option.bind_eq_some_iff.mp H
    obtain ⟨t287, A40, H⟩ := H
    replace H : (if t287 = true then (syzygylaw01_LimbShifts.j0 k l0 a1 true) else ((syzygylaw01_shown.f k).bind fun t288 => (syzygylaw01_LimbShifts.j0 k l0 a1 (!t288)))) = some true := H
    have A4 := Aside0.mk A40
    clear A40
    by_cases c5 : t287 = true
    · subst c5
      have H1 : (syzygylaw01_LimbShifts.j0 k l0 a1 true) = some true := by rw [if_pos rfl] at H; exact H
      clear H
      have H := H1
      clear H1
      have H' := Aside0.mk H
      clear H
      go_wp2_with (first | ((with_reducible refine gate_callee (f := 11) rfl ?_); refine goesL_ (some 6) rfl rfl Try.func11 (by kernel_rfl) rfl #[.slice A0 l0.length c0, .slice none 0 0] rfl (by (try simp only [List.map_toArray, List.map_cons, List.map_nil]); first | done | rfl | (simp only [List.length_drop, List.length_take]; rfl)) ?_; (refine (syzygylaw01_heavy.calls _ _ l0 _ _ ([] : List Int) true _ ?side1 ?side2 ?side3 ?side4 A4.out).mono ?_); (case side1 => repeat (first | exact (Kd.C_below HR0.out HB.out) | (with_reducible refine Kd.C_alloc ?_ _) | (with_reducible refine Kd.C_drewN ?_ _) | (with_reducible refine Kd.C_drew ?_))); (case side2 => exact HC0.out); (case side3 => exact Kd.C_nil _ _); (case side4 => exact Nat.le_refl _); rintro e w' ⟨rfl, ⟨nd, rfl⟩⟩; refine ⟨_, rfl, ?_⟩))
      go_meet
      case rel => exact ⟨_, (true), (by first | rfl | (simp; done) | (simp [*]; done)), H', ⟨by first | omega | exact Nat.le_refl _⟩, ⟨by repeat (first | (with_reducible first | exact HB.out | apply below_alloc | apply pw_below_drewN | apply below_drew1) | exact HB.out)⟩⟩
    · replace c5 := Bool.eq_false_iff.mpr c5
      subst c5
      have H1 : ((syzygylaw01_shown.f k).bind fun t288 => (syzygylaw01_LimbShifts.j0 k l0 a1 (!t288))) = some true := by rw [if_neg (show ¬ (false = true) by decide)] at H; exact H
      clear H
      have H := H1
      clear H1
      replace H := Option.bind_eq_some_iff.mp H
      obtain ⟨t288, A60, H⟩ := H
      replace H : (syzygylaw01_LimbShifts.j0 k l0 a1 (!t288)) = some true := H
      have A6 := Aside0.mk A60
      clear A60
      have H' := Aside0.mk H
      clear H
      go_wp2_with (first | ((with_reducible refine gate_callee (f := 11) rfl ?_); refine goesL_ (some 6) rfl rfl Try.func11 (by kernel_rfl) rfl #[.slice A0 l0.length c0, .slice none 0 0] rfl (by (try simp only [List.map_toArray, List.map_cons, List.map_nil]); first | done | rfl | (simp only [List.length_drop, List.length_take]; rfl)) ?_; (refine (syzygylaw01_heavy.calls _ _ l0 _ _ ([] : List Int) false _ ?side1 ?side2 ?side3 ?side4 A4.out).mono ?_); (case side1 => repeat (first | exact (Kd.C_below HR0.out HB.out) | (with_reducible refine Kd.C_alloc ?_ _) | (with_reducible refine Kd.C_drewN ?_ _) | (with_reducible refine Kd.C_drew ?_))); (case side2 => exact HC0.out); (case side3 => exact Kd.C_nil _ _); (case side4 => exact Nat.le_refl _); rintro e w' ⟨rfl, ⟨nd, rfl⟩⟩; refine ⟨_, rfl, ?_⟩) | ((with_reducible refine gate_dst (N := 8) rfl ?_); refine gate_guard (by first | rfl | kernel_rfl) ?_; dsimp only; (with_reducible refine gate_callee (f := 12) rfl ?_); refine goesL_ (some 8) rfl rfl Try.func12 (by kernel_rfl) rfl #[] rfl (by (try simp only [List.map_toArray, List.map_cons, List.map_nil]); first | done | rfl | (simp only [List.length_drop, List.length_take]; rfl)) ?_; (with_reducible refine (syzygylaw01_shown.calls k  t288 _ A6.out).mono ?_); rintro e w7 ⟨rfl, hb⟩; refine ⟨_, rfl, ?_⟩; have n0_ := Aside0.mk (below_step (by repeat (first | (with_reducible first | exact HB.out | apply below_alloc | apply pw_below_drewN | apply below_drew1) | exact HB.out)) hb); clear HB; have HB := n0_; clear n0_; (try clear hb); (try clear hb2); (try clear hk); (try clear hi)))
      go_meet
      case rel => exact ⟨_, (!t288), (by first | rfl | (simp; done) | (simp [*]; done)), H', ⟨by first | omega | exact Nat.le_refl _⟩, ⟨by repeat (first | (with_reducible first | exact HB.out | apply below_alloc | apply pw_below_drewN | apply below_drew1) | exact HB.out)⟩⟩
  case rest =>
    clear HC3
    try clear c1
    try clear p2
    try clear c4
    try clear c5
    obtain ⟨kq, x10_2, rfl, HA, HJ2, HB⟩ := hcut
    cases kq with
    | zero => exact absurd HA.out (by simp [syzygylaw01_LimbShifts.j0])
    | succ kj2 =>
      have H := HA.out
      clear HA
      simp only [syzygylaw01_LimbShifts.j0] at H
      by_cases c8 : x10_2 = true
      · subst c8
        have H1 : ((syzygylaw01_shown.f kj2).bind fun t289 => (some t289)) = some true := by rw [if_pos rfl] at H; exact H
        clear H
        have H := H1
        clear H1
        replace H := Option.bind_eq_some_iff.mp H
        obtain ⟨t289, A90, H⟩ := H
        replace H : (some t289) = some true := H
        have A9 := Aside0.mk A90
        clear A90
        have HRT_ := Aside0.mk (Option.some.inj H)
        clear H
        go_wp2_with (first | ((with_reducible refine gate_callee (f := 12) rfl ?_); refine goesL_ (some 11) rfl rfl Try.func12 (by kernel_rfl) rfl #[] rfl (by (try simp only [List.map_toArray, List.map_cons, List.map_nil]); first | done | rfl | (simp only [List.length_drop, List.length_take]; rfl)) ?_; (with_reducible refine (syzygylaw01_shown.calls kj2  t289 _ A9.out).mono ?_); rintro e w10 ⟨rfl, hb⟩; refine ⟨_, rfl, ?_⟩; have n0_ := Aside0.mk (below_step (by repeat (first | (with_reducible first | exact HB.out | apply below_alloc | apply pw_below_drewN | apply below_drew1) | exact HB.out)) hb); clear HB; have HB := n0_; clear n0_; (try clear hb); (try clear hb2); (try clear hk); (try clear hi)))
        go_ret
        exact ⟨by first | rfl | (rw [HRT_.out]; rfl) | (simp only [HRT_.out]; done) | exact of_decide_eq_true HRT_.out | (have h_ := HRT_.out; simp at h_ ⊢; exact h_) | (have h_ := HRT_.out; simp at h_ ⊢; omega) | (have h_ := HRT_.out; simp [h_]; done) | (simp [errW_none, errW_some] <;> rfl) | (simp [*, errW_none, errW_some] <;> rfl), by repeat (first | (with_reducible first | exact HB.out | apply below_alloc | apply pw_below_drewN | apply below_drew1) | exact HB.out)⟩
      · replace c8 := Bool.eq_false_iff.mpr c8
        subst c8
        have H1 : ((limb_Shift.f kj2 l0 a1).bind fun t290 => ((syzygyref01_Shift.f kj2 l0 (mx a1 (-100000))).bind fun t293 => ((syzygyref01_Same.f kj2 t290 t293).bind fun t296 => (some t296)))) = some true := by rw [if_neg (show ¬ (false = true) by decide)] at H; exact H
        clear H
        have H := H1
        clear H1
        replace H := Option.bind_eq_some_iff.mp H
        obtain ⟨t290, A110, H⟩ := H
        replace H : ((syzygyref01_Shift.f kj2 l0 (mx a1 (-100000))).bind fun t293 => ((syzygyref01_Same.f kj2 t290 t293).bind fun t296 => (some t296))) = some true := H
        have A11 := Aside0.mk A110
        clear A110
        obtain ⟨ji12, hji12⟩ : ∃ j_ : Int, (mx a1 (-100000)) = j_ := ⟨_, rfl⟩
        replace H : ((syzygyref01_Shift.f kj2 l0 (ji12)).bind fun t293 => ((syzygyref01_Same.f kj2 t290 t293).bind fun t296 => (some t296))) = some true := by first | (rw [hji12] at H; exact H) | (simp only [hji12] at H ⊢; exact H)
        (try rw [hji12] at A11)
        have hji12_ : (if a1 < (-100000) then (-100000) else a1) = ji12 := hji12
        replace H := Option.bind_eq_some_iff.mp H
        obtain ⟨t293, A130, H⟩ := H
        replace H : ((syzygyref01_Same.f kj2 t290 t293).bind fun t296 => (some t296)) = some true := H
        have A13 := Aside0.mk A130
        clear A130
        replace H := Option.bind_eq_some_iff.mp H
        obtain ⟨t296, A140, H⟩ := H
        replace H : (some t296) = some true := H
        have A14 := Aside0.mk A140
        clear A140
        have HRT_ := Aside0.mk (Option.some.inj H)
        clear H
        go_wp2_with (first | ((with_reducible refine gate_callee (f := 17) rfl ?_); refine goesL_ (some 14) rfl rfl Try.func17 (by kernel_rfl) rfl #[.slice A0 l0.length c0, .int .i64 a1] rfl (by (try simp only [List.map_toArray, List.map_cons, List.map_nil]); first | done | rfl | (simp only [List.length_drop, List.length_take]; rfl)) ?_; (with_reducible refine (limb_Shift.calls kj2 (fun k_ => k_ < w.heap.size) _ _ l0 a1 t290 _ ?side1 A11.out).mono ?_); (case side1 => exact Kd.V_mk HC0.out (Kd.F_below (Kd.C_F (Kd.heap_int .u64) HR0.out) (by repeat (first | (with_reducible first | exact HB.out | apply below_alloc | apply pw_below_drewN | apply below_drew1) | exact HB.out)))); rintro e w15 ⟨v291, rfl, ho0, hb⟩; refine ⟨_, rfl, ?_⟩; have n0_ := Aside0.mk (Kd.V_lower (Kd.V_mono (ok' := fun k_ => True) ho0 (fun k_ hk_ => trivial)) (below_size (by repeat (first | (with_reducible first | exact HB.out | apply below_alloc | apply pw_below_drewN | apply below_drew1) | exact HB.out)))); have n1_ := Aside0.mk (below_step (by repeat (first | (with_reducible first | exact HB.out | apply below_alloc | apply pw_below_drewN | apply below_drew1) | exact HB.out)) hb); clear HB; have HO292 := n0_; have HB := n1_; clear n0_ n1_; (try clear hb); (try clear hb2); (try clear hk); (try clear hi); (try clear ho0)) | ((with_reducible refine gate_callee (f := 18) rfl ?_); refine goesL_ (some 18) rfl rfl Try.func18 (by kernel_rfl) rfl #[.slice A0 l0.length c0, .int .i64 ji12] rfl (by (try simp only [List.map_toArray, List.map_cons, List.map_nil]); first | done | (simp only [hji12]; rfl) | rfl | (simp only [List.length_drop, List.length_take]; rfl)) ?_; (with_reducible refine (syzygyref01_Shift.calls kj2 _ _ l0 ji12 t293 _ ?side1 ?side2 A13.out).mono ?_); (case side1 => repeat (first | exact (Kd.C_below HR0.out HB.out) | (with_reducible refine Kd.C_alloc ?_ _) | (with_reducible refine Kd.C_drewN ?_ _) | (with_reducible refine Kd.C_drew ?_))); (case side2 => exact HC0.out); rintro e w16 ⟨v294, rfl, ho0, hb⟩; refine ⟨_, rfl, ?_⟩; have n0_ := Aside0.mk (Kd.V_elder' (by (with_reducible repeat (first | apply Kd.V_alloc | apply Kd.V_drewN | apply Kd.V_drew)); exact HO292.out) (Kd.R_base ho0) hb); have n1_ := Aside0.mk (Kd.R_lower ho0 (below_size (by repeat (first | (with_reducible first | exact HB.out | apply below_alloc | apply pw_below_drewN | apply below_drew1) | exact HB.out)))); have n2_ := Aside0.mk (below_step (by repeat (first | (with_reducible first | exact HB.out | apply below_alloc | apply pw_below_drewN | apply below_drew1) | exact HB.out)) hb); clear HO292; clear HB; have HO292 := n0_; have HO295 := n1_; have HB := n2_; clear n0_ n1_ n2_; (try clear hb); (try clear hb2); (try clear hk); (try clear hi); (try clear ho0); obtain ⟨Ao17, co17, eo17⟩ := Kd.V_slice HO292.out; subst eo17; obtain ⟨Ao18, co18, eo18⟩ := Kd.R_slice HO295.out; subst eo18) | ((with_reducible refine gate_callee (f := 14) rfl ?_); refine goesL_ (some 19) rfl rfl Try.func14 (by kernel_rfl) rfl #[.slice Ao17 t290.length co17, .slice Ao18 t293.length co18] rfl (by (try simp only [List.map_toArray, List.map_cons, List.map_nil]); first | done | rfl | (simp only [List.length_drop, List.length_take]; rfl)) ?_; (with_reducible refine (syzygyref01_Same.calls kj2 _ _ t290 _ _ t293 t296 _ ?side1 ?side2 ?side3 ?side4 A14.out).mono ?_); (case side1 => repeat (first | exact (Kd.V_reads' HO292.out).2.2 | (with_reducible refine Kd.C_alloc ?_ _) | (with_reducible refine Kd.C_drewN ?_ _) | (with_reducible refine Kd.C_drew ?_))); (case side2 => exact (Kd.V_reads' HO292.out).2.1); (case side3 => repeat (first | exact (Kd.R_reads' HO295.out).2.2 | (with_reducible refine Kd.C_alloc ?_ _) | (with_reducible refine Kd.C_drewN ?_ _) | (with_reducible refine Kd.C_drew ?_))); (case side4 => exact (Kd.R_reads' HO295.out).2.1); rintro e w' ⟨rfl, ⟨nd, rfl⟩⟩; refine ⟨_, rfl, ?_⟩))
        go_ret
        exact ⟨by first | rfl | (rw [HRT_.out]; rfl) | (simp only [HRT_.out]; done) | exact of_decide_eq_true HRT_.out | (have h_ := HRT_.out; simp at h_ ⊢; exact h_) | (have h_ := HRT_.out; simp at h_ ⊢; omega) | (have h_ := HRT_.out; simp [h_]; done) | (simp [errW_none, errW_some] <;> rfl) | (simp only [← hji12]; first | rfl | (simp [errW_none, errW_some] <;> rfl)) | (simp [*, errW_none, errW_some] <;> rfl), by repeat (first | (with_reducible first | exact HB.out | apply below_alloc | apply pw_below_drewN | apply below_drew1) | exact HB.out)⟩

/-- THE ONE PURE STATEMENT of syzygylaw01_LimbShifts: yours. -/
def syzygylaw01_LimbShifts.Pure : Prop := ∀ (l0 : List Int) (a1 : Int), l0.length ≤ maxLen → l0.length * 8 ≤ 140737488351232 → (∀ x ∈ l0, (Lit.int .u64 x).wf = true) → (Lit.int .i64 a1).wf = true → ∃ k, syzygylaw01_LimbShifts.f k l0 a1 = some true
theorem syzygylaw01_LimbShifts.walk (P : syzygylaw01_LimbShifts.Pure) (a0 : Option Addr) (len0 cap0 : Nat) (z0 : List Int) (a1 : Int) (w : World) (w0 : (a0 = none ∧ len0 = 0 ∧ cap0 = 0 ∧ z0 = []) ∨ ∃ x, a0 = some x ∧ len0 ≤ cap0 ∧ cap0 ≤ maxLen ∧ z0.length = cap0 ∧ (∀ i, i < z0.length → w.cell? (x.add i) = some (.int .u64 (z0.getD i 0))) ∧ ∀ n ∈ z0, (Lit.int .u64 n).wf = true) (y0 : len0 * 8 ≤ 140737488351232) (w1 : (Lit.int .i64 a1).wf = true) :
    Calls Try.prog 4 #[.slice a0 len0 cap0, .int .i64 a1] w fun e w' => e = .returned (.bool true) ∧ Below w.heap.size w w' := by
  obtain ⟨l0, rfl, hr0, hm0, hw0, hc0⟩ := ReadsInt.ofRowC w0
  obtain ⟨k, h⟩ := P l0 a1 hm0 y0 hw0 w1
  refine (syzygylaw01_LimbShifts.calls k _ _ l0 a1 w (Kd.C_of_reads (d := (0 : Int)) (h1 := fun _ => rfl) hr0) hc0 h).mono ?_
  rintro e w' ⟨rfl, hd⟩
  exact ⟨rfl, hd⟩

end Go.Proofs.Ytdknpbabdkjhfaa.POLimbShifts
