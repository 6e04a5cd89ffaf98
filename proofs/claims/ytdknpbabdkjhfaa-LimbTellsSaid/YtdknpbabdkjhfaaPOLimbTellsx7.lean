-- Written by a program of this session (pr.py, over the kit's print.py).
import Derived.Test.YtdknpbabdkjhfaaPOLimbTellsx0
import Derived.Test.YtdknpbabdkjhfaaPOLimbTellsx1
import Derived.Test.YtdknpbabdkjhfaaPOLimbTellsx2
import Derived.Test.YtdknpbabdkjhfaaPOLimbTellsx3
import Derived.Test.YtdknpbabdkjhfaaPOLimbTellsx4
import Derived.Test.YtdknpbabdkjhfaaPOLimbTellsx5
import Derived.Test.YtdknpbabdkjhfaaPOLimbTellsx6
namespace Go.Proofs.Ytdknpbabdkjhfaa.POLimbTells
open Go.RowKit Go.Proofs.YtdknpbabdkjhfaaN Go.Proofs.YtdknpbabdkjhfaaW.PrintWords Go.Proofs.YtdknpbabdkjhfaaW.PrintLast Go.Proofs.YtdknpbabdkjhfaaW.PrintMore
attribute [local go_sem] max2_int min2_int max_two min_two max_three min_three max_four min_four   -- for this text's walks alone
set_option linter.unusedVariables false
set_option linter.unusedSimpArgs false

/-! ### syzygylaw01_LimbTells: function 9 -/
def syzygylaw01_LimbTells.j0 : Nat → List Int → List Int → Bool → Option (Bool)
  | 0, _, _, _ => none
  | k + 1, x0, x1, x16 => if x16 = true then ((syzygylaw01_shown.f k).bind fun t298 => (some t298)) else ((limb_Sub.f k x0 x1).bind fun bt299 => ((syzygyref01_Sub.f k x0 x1).bind fun bt303 => ((limb_Trim.f k x0).bind fun t307 => ((syzygyref01_Trim.f k x0).bind fun t310 => ((syzygyref01_Same.f k t307 t310).bind fun t313 => (if t313 = true then ((limb_Cmp.f k x0 x1).bind fun t314 => ((syzygyref01_Cmp.f k x0 x1).bind fun t315 => (if t314 = t315 then ((limb_Bits.f k x0).bind fun t316 => ((syzygyref01_Bits.f k x0).bind fun t317 => (if t316 = t317 then ((limb_Add.f k x0 x1).bind fun t318 => ((syzygyref01_Add.f k x0 x1).bind fun t321 => ((syzygyref01_Same.f k t318 t321).bind fun t324 => (if t324 = true then ((syzygyref01_Same.f k bt299.1 bt303.1).bind fun t325 => (if t325 = true then (if (bt299.2 == bt303.2) = true then ((limb_Mul.f k x0 x1).bind fun t326 => ((syzygyref01_Mul.f k x0 x1).bind fun t329 => ((syzygyref01_Same.f k t326 t329).bind fun t332 => (some t332)))) else (some false)) else (some false))) else (some false))))) else (some false)))) else (some false)))) else (some false)))))))
def syzygylaw01_LimbTells.f (k : Nat) (l0 : List Int) (l1 : List Int) : Option (Bool) := (syzygylaw01_heavy.f l0 l1).bind fun t296 => (if t296 = true then (syzygylaw01_LimbTells.j0 k l0 l1 true) else ((syzygylaw01_shown.f k).bind fun t297 => (syzygylaw01_LimbTells.j0 k l0 l1 (!t297))))
theorem syzygylaw01_LimbTells.mono_l : ∀ k, (∀ y0 y1 y2, LeO (syzygylaw01_LimbTells.j0 k y0 y1 y2) (syzygylaw01_LimbTells.j0 (k + 1) y0 y1 y2))
  | 0 => fun _ _ _ r h => by simp [syzygylaw01_LimbTells.j0] at h
  | k + 1 => by
    have ih0 := syzygylaw01_LimbTells.mono_l k
    · intro y0 y1 y2
      unfold syzygylaw01_LimbTells.j0
      repeat' first
      | (with_reducible exact ih0 _ _ _)
      | (with_reducible exact limb_Add.mono _ _ _)
      | (with_reducible exact limb_Bits.mono _ _)
      | (with_reducible exact limb_Cmp.mono _ _ _)
      | (with_reducible exact limb_Mul.mono _ _ _)
      | (with_reducible exact limb_Sub.mono _ _ _)
      | (with_reducible exact limb_Trim.mono _ _)
      | (with_reducible exact syzygylaw01_shown.mono _)
      | (with_reducible exact syzygyref01_Add.mono _ _ _)
      | (with_reducible exact syzygyref01_Bits.mono _ _)
      | (with_reducible exact syzygyref01_Cmp.mono _ _ _)
      | (with_reducible exact syzygyref01_Mul.mono _ _ _)
      | (with_reducible exact syzygyref01_Same.mono _ _ _)
      | (with_reducible exact syzygyref01_Sub.mono _ _ _)
      | (with_reducible exact syzygyref01_Trim.mono _ _)
      | (with_reducible exact LeO.refl _)
      | (with_reducible exact LeO.none _)
      | (with_reducible refine LeO.ite ?_ ?_)
      | (with_reducible refine LeO.bind ?_ (fun _ => ?_))
      | exact ih0 _ _ _
      | exact limb_Add.mono _ _ _
      | exact limb_Bits.mono _ _
      | exact limb_Cmp.mono _ _ _
      | exact limb_Mul.mono _ _ _
      | exact limb_Sub.mono _ _ _
      | exact limb_Trim.mono _ _
      | exact syzygylaw01_shown.mono _
      | exact syzygyref01_Add.mono _ _ _
      | exact syzygyref01_Bits.mono _ _
      | exact syzygyref01_Cmp.mono _ _ _
      | exact syzygyref01_Mul.mono _ _ _
      | exact syzygyref01_Same.mono _ _ _
      | exact syzygyref01_Sub.mono _ _ _
      | exact syzygyref01_Trim.mono _ _
      | exact LeO.none _
      | refine LeO.ite ?_ ?_
      | refine LeO.bind ?_ (fun _ => ?_)
theorem syzygylaw01_LimbTells.mono : ∀ a0 a1 k, LeO (syzygylaw01_LimbTells.f k a0 a1) (syzygylaw01_LimbTells.f (k + 1) a0 a1) := by
  intro a0 a1 k
  have ih0 := syzygylaw01_LimbTells.mono_l k
  unfold syzygylaw01_LimbTells.f
  repeat' first
      | (with_reducible exact ih0 _ _ _)
      | (with_reducible exact limb_Add.mono _ _ _)
      | (with_reducible exact limb_Bits.mono _ _)
      | (with_reducible exact limb_Cmp.mono _ _ _)
      | (with_reducible exact limb_Mul.mono _ _ _)
      | (with_reducible exact limb_Sub.mono _ _ _)
      | (with_reducible exact limb_Trim.mono _ _)
      | (with_reducible exact syzygylaw01_shown.mono _)
      | (with_reducible exact syzygyref01_Add.mono _ _ _)
      | (with_reducible exact syzygyref01_Bits.mono _ _)
      | (with_reducible exact syzygyref01_Cmp.mono _ _ _)
      | (with_reducible exact syzygyref01_Mul.mono _ _ _)
      | (with_reducible exact syzygyref01_Same.mono _ _ _)
      | (with_reducible exact syzygyref01_Sub.mono _ _ _)
      | (with_reducible exact syzygyref01_Trim.mono _ _)
      | (with_reducible exact LeO.refl _)
      | (with_reducible exact LeO.none _)
      | (with_reducible refine LeO.ite ?_ ?_)
      | (with_reducible refine LeO.bind ?_ (fun _ => ?_))
      | exact ih0 _ _ _
      | exact limb_Add.mono _ _ _
      | exact limb_Bits.mono _ _
      | exact limb_Cmp.mono _ _ _
      | exact limb_Mul.mono _ _ _
      | exact limb_Sub.mono _ _ _
      | exact limb_Trim.mono _ _
      | exact syzygylaw01_shown.mono _
      | exact syzygyref01_Add.mono _ _ _
      | exact syzygyref01_Bits.mono _ _
      | exact syzygyref01_Cmp.mono _ _ _
      | exact syzygyref01_Mul.mono _ _ _
      | exact syzygyref01_Same.mono _ _ _
      | exact syzygyref01_Sub.mono _ _ _
      | exact syzygyref01_Trim.mono _ _
      | exact LeO.none _
      | refine LeO.ite ?_ ?_
      | refine LeO.bind ?_ (fun _ => ?_)
set_option maxHeartbeats 8000000 in
set_option maxRecDepth 100000 in
theorem syzygylaw01_LimbTells.calls (k : Nat) (A0 : Option Addr) (c0 : Nat) (l0 : List Int) (A1 : Option Addr) (c1 : Nat) (l1 : List Int) (w : World) (hr0 : Kd.C (Kd.int .u64) w A0 l0.length l0) (hc0 : l0.length ≤ c0) (hr1 : Kd.C (Kd.int .u64) w A1 l1.length l1) (hc1 : l1.length ≤ c1) (h : syzygylaw01_LimbTells.f k l0 l1 = some true) :
    Calls Try.prog 9 #[.slice A0 l0.length c0, .slice A1 l1.length c1] w fun e w' => e = .returned (.bool true) ∧ Below w.heap.size w w' := by
  have HR0 := Aside0.mk hr0
  have HC0 := Aside0.mk hc0
  clear hr0 hc0
  have HR1 := Aside0.mk hr1
  have HC1 := Aside0.mk hc1
  clear hr1 hc1
  have HB := Aside0.mk (Below.refl w.heap.size w)
  have H : ((syzygylaw01_heavy.f l0 l1).bind fun t296 => (if t296 = true then (syzygylaw01_LimbTells.j0 k l0 l1 true) else ((syzygylaw01_shown.f k).bind fun t297 => (syzygylaw01_LimbTells.j0 k l0 l1 (!t297))))) = some true := h
  clear h
  have HC3 := Aside0.mk H
  clear H
  go_enter Try.func9, Try.ntmps9
  go_upto_region 1 with (fail)
  go_cut [16] (fun v16 wc => ∃ (kq : Nat) (x16_2 : Bool), v16 = .bool x16_2 ∧ Aside0 (syzygylaw01_LimbTells.j0 kq l0 l1 x16_2 = some true) ∧ Aside0 (kq ≤ k) ∧ Aside0 (Below w.heap.size w wc))
  case first =>
    have H := HC3.out
    clear HC3
    replace H := Option.bind_eq_some_iff.mp H
    obtain ⟨t296, A40, H⟩ := H
    replace H : (if t296 = true then (syzygylaw01_LimbTells.j0 k l0 l1 true) else ((syzygylaw01_shown.f k).bind fun t297 => (syzygylaw01_LimbTells.j0 k l0 l1 (!t297)))) = some true := H
    have A4 := Aside0.mk A40
    clear A40
    by_cases c5 : t296 = true
    · subst c5
      have H1 : (syzygylaw01_LimbTells.j0 k l0 l1 true) = some true := by rw [if_pos rfl] at H; exact H
      clear H
      have H := H1
      clear H1
      have H' := Aside0.mk H
      clear H
      go_wp2_with (first | ((with_reducible refine gate_callee (f := 11) rfl ?_); refine goesL_ (some 12) rfl rfl Try.func11 (by kernel_rfl) rfl #[.slice A0 l0.length c0, .slice A1 l1.length c1] rfl (by (try simp only [List.map_toArray, List.map_cons, List.map_nil]); first | done | rfl | (simp only [List.length_drop, List.length_take]; rfl)) ?_; (with_reducible refine (syzygylaw01_heavy.calls _ _ l0 _ _ l1 true _ ?side1 ?side2 ?side3 ?side4 A4.out).mono ?_); (case side1 => repeat (first | exact (Kd.C_below HR0.out HB.out) | (with_reducible refine Kd.C_alloc ?_ _) | (with_reducible refine Kd.C_drewN ?_ _) | (with_reducible refine Kd.C_drew ?_))); (case side2 => exact HC0.out); (case side3 => repeat (first | exact (Kd.C_below HR1.out HB.out) | (with_reducible refine Kd.C_alloc ?_ _) | (with_reducible refine Kd.C_drewN ?_ _) | (with_reducible refine Kd.C_drew ?_))); (case side4 => exact HC1.out); rintro e w' ⟨rfl, ⟨nd, rfl⟩⟩; refine ⟨_, rfl, ?_⟩))
      go_meet
      case rel => exact ⟨_, (true), (by first | rfl | (simp; done) | (simp [*]; done)), H', ⟨by first | omega | exact Nat.le_refl _⟩, ⟨by repeat (first | (with_reducible first | exact HB.out | apply below_alloc | apply pw_below_drewN | apply below_drew1) | exact HB.out)⟩⟩
    · replace c5 := Bool.eq_false_iff.mpr c5
      subst c5
      have H1 : ((syzygylaw01_shown.f k).bind fun t297 => (syzygylaw01_LimbTells.j0 k l0 l1 (!t297))) = some true := by rw [if_neg (show ¬ (false = true) by decide)] at H; exact H
      clear H
      have H := H1
      clear H1
      replace H := Option.bind_eq_some_iff.mp H
      obtain ⟨t297, A60, H⟩ := H
      replace H : (syzygylaw01_LimbTells.j0 k l0 l1 (!t297)) = some true := H
      have A6 := Aside0.mk A60
      clear A60
      have H' := Aside0.mk H
      clear H
      go_wp2_with (first | ((with_reducible refine gate_callee (f := 11) rfl ?_); refine goesL_ (some 12) rfl rfl Try.func11 (by kernel_rfl) rfl #[.slice A0 l0.length c0, .slice A1 l1.length c1] rfl (by (try simp only [List.map_toArray, List.map_cons, List.map_nil]); first | done | rfl | (simp only [List.length_drop, List.length_take]; rfl)) ?_; (with_reducible refine (syzygylaw01_heavy.calls _ _ l0 _ _ l1 false _ ?side1 ?side2 ?side3 ?side4 A4.out).mono ?_); (case side1 => repeat (first | exact (Kd.C_below HR0.out HB.out) | (with_reducible refine Kd.C_alloc ?_ _) | (with_reducible refine Kd.C_drewN ?_ _) | (with_reducible refine Kd.C_drew ?_))); (case side2 => exact HC0.out); (case side3 => repeat (first | exact (Kd.C_below HR1.out HB.out) | (with_reducible refine Kd.C_alloc ?_ _) | (with_reducible refine Kd.C_drewN ?_ _) | (with_reducible refine Kd.C_drew ?_))); (case side4 => exact HC1.out); rintro e w' ⟨rfl, ⟨nd, rfl⟩⟩; refine ⟨_, rfl, ?_⟩) | ((with_reducible refine gate_dst (N := 14) rfl ?_); refine gate_guard (by first | rfl | kernel_rfl) ?_; dsimp only; (with_reducible refine gate_callee (f := 12) rfl ?_); refine goesL_ (some 14) rfl rfl Try.func12 (by kernel_rfl) rfl #[] rfl (by (try simp only [List.map_toArray, List.map_cons, List.map_nil]); first | done | rfl | (simp only [List.length_drop, List.length_take]; rfl)) ?_; (with_reducible refine (syzygylaw01_shown.calls k  t297 _ A6.out).mono ?_); rintro e w7 ⟨rfl, hb⟩; refine ⟨_, rfl, ?_⟩; have n0_ := Aside0.mk (below_step (by repeat (first | (with_reducible first | exact HB.out | apply below_alloc | apply pw_below_drewN | apply below_drew1) | exact HB.out)) hb); clear HB; have HB := n0_; clear n0_; (try clear hb); (try clear hb2); (try clear hk); (try clear hi)))
      go_meet
      case rel => exact ⟨_, (!t297), (by first | rfl | (simp; done) | (simp [*]; done)), H', ⟨by first | omega | exact Nat.le_refl _⟩, ⟨by repeat (first | (with_reducible first | exact HB.out | apply below_alloc | apply pw_below_drewN | apply below_drew1) | exact HB.out)⟩⟩
  case rest =>
    clear HC3
    try clear c1
    try clear p2
    try clear c5
    obtain ⟨kq, x16_2, rfl, HA, HJ2, HB⟩ := hcut
    cases kq with
    | zero => exact absurd HA.out (by simp [syzygylaw01_LimbTells.j0])
    | succ kj2 =>
      have H := HA.out
      clear HA
      simp only [syzygylaw01_LimbTells.j0] at H
      by_cases c8 : x16_2 = true
      · subst c8
        have H1 : ((syzygylaw01_shown.f kj2).bind fun t298 => (some t298)) = some true := by rw [if_pos rfl] at H; exact H
        clear H
        have H := H1
        clear H1
        replace H := Option.bind_eq_some_iff.mp H
        obtain ⟨t298, A90, H⟩ := H
        replace H : (some t298) = some true := H
        have A9 := Aside0.mk A90
        clear A90
        have HRT_ := Aside0.mk (Option.some.inj H)
        clear H
        go_wp2_with (first | ((with_reducible refine gate_callee (f := 12) rfl ?_); refine goesL_ (some 17) rfl rfl Try.func12 (by kernel_rfl) rfl #[] rfl (by (try simp only [List.map_toArray, List.map_cons, List.map_nil]); first | done | rfl | (simp only [List.length_drop, List.length_take]; rfl)) ?_; (with_reducible refine (syzygylaw01_shown.calls kj2  t298 _ A9.out).mono ?_); rintro e w10 ⟨rfl, hb⟩; refine ⟨_, rfl, ?_⟩; have n0_ := Aside0.mk (below_step (by repeat (first | (with_reducible first | exact HB.out | apply below_alloc | apply pw_below_drewN | apply below_drew1) | exact HB.out)) hb); clear HB; have HB := n0_; clear n0_; (try clear hb); (try clear hb2); (try clear hk); (try clear hi)))
        go_ret
        exact ⟨by first | rfl | (rw [HRT_.out]; rfl) | (simp only [HRT_.out]; done) | exact of_decide_eq_true HRT_.out | (have h_ := HRT_.out; simp at h_ ⊢; exact h_) | (have h_ := HRT_.out; simp at h_ ⊢; omega) | (have h_ := HRT_.out; simp [h_]; done) | (simp [errW_none, errW_some] <;> rfl) | (simp [*, errW_none, errW_some] <;> rfl), by repeat (first | (with_reducible first | exact HB.out | apply below_alloc | apply pw_below_drewN | apply below_drew1) | exact HB.out)⟩
      · replace c8 := Bool.eq_false_iff.mpr c8
        subst c8
        have H1 : ((limb_Sub.f kj2 l0 l1).bind fun bt299 => ((syzygyref01_Sub.f kj2 l0 l1).bind fun bt303 => ((limb_Trim.f kj2 l0).bind fun t307 => ((syzygyref01_Trim.f kj2 l0).bind fun t310 => ((syzygyref01_Same.f kj2 t307 t310).bind fun t313 => (if t313 = true then ((limb_Cmp.f kj2 l0 l1).bind fun t314 => ((syzygyref01_Cmp.f kj2 l0 l1).bind fun t315 => (if t314 = t315 then ((limb_Bits.f kj2 l0).bind fun t316 => ((syzygyref01_Bits.f kj2 l0).bind fun t317 => (if t316 = t317 then ((limb_Add.f kj2 l0 l1).bind fun t318 => ((syzygyref01_Add.f kj2 l0 l1).bind fun t321 => ((syzygyref01_Same.f kj2 t318 t321).bind fun t324 => (if t324 = true then ((syzygyref01_Same.f kj2 bt299.1 bt303.1).bind fun t325 => (if t325 = true then (if (bt299.2 == bt303.2) = true then ((limb_Mul.f kj2 l0 l1).bind fun t326 => ((syzygyref01_Mul.f kj2 l0 l1).bind fun t329 => ((syzygyref01_Same.f kj2 t326 t329).bind fun t332 => (some t332)))) else (some false)) else (some false))) else (some false))))) else (some false)))) else (some false)))) else (some false))))))) = some true := by rw [if_neg (show ¬ (false = true) by decide)] at H; exact H
        clear H
        have H := H1
        clear H1
        replace H := Option.bind_eq_some_iff.mp H
        obtain ⟨⟨t299, t300⟩, A110, H⟩ := H
        replace H : ((syzygyref01_Sub.f kj2 l0 l1).bind fun bt303 => ((limb_Trim.f kj2 l0).bind fun t307 => ((syzygyref01_Trim.f kj2 l0).bind fun t310 => ((syzygyref01_Same.f kj2 t307 t310).bind fun t313 => (if t313 = true then ((limb_Cmp.f kj2 l0 l1).bind fun t314 => ((syzygyref01_Cmp.f kj2 l0 l1).bind fun t315 => (if t314 = t315 then ((limb_Bits.f kj2 l0).bind fun t316 => ((syzygyref01_Bits.f kj2 l0).bind fun t317 => (if t316 = t317 then ((limb_Add.f kj2 l0 l1).bind fun t318 => ((syzygyref01_Add.f kj2 l0 l1).bind fun t321 => ((syzygyref01_Same.f kj2 t318 t321).bind fun t324 => (if t324 = true then ((syzygyref01_Same.f kj2 t299 bt303.1).bind fun t325 => (if t325 = true then (if (t300 == bt303.2) = true then ((limb_Mul.f kj2 l0 l1).bind fun t326 => ((syzygyref01_Mul.f kj2 l0 l1).bind fun t329 => ((syzygyref01_Same.f kj2 t326 t329).bind fun t332 => (some t332)))) else (some false)) else (some false))) else (some false))))) else (some false)))) else (some false)))) else (some false)))))) = some true := H
        have A11 := Aside0.mk A110
        clear A110
        replace H := Option.bind_eq_some_iff.mp H
        obtain ⟨⟨t303, t304⟩, A120, H⟩ := H
        replace H : ((limb_Trim.f kj2 l0).bind fun t307 => ((syzygyref01_Trim.f kj2 l0).bind fun t310 => ((syzygyref01_Same.f kj2 t307 t310).bind fun t313 => (if t313 = true then ((limb_Cmp.f kj2 l0 l1).bind fun t314 => ((syzygyref01_Cmp.f kj2 l0 l1).bind fun t315 => (if t314 = t315 then ((limb_Bits.f kj2 l0).bind fun t316 => ((syzygyref01_Bits.f kj2 l0).bind fun t317 => (if t316 = t317 then ((limb_Add.f kj2 l0 l1).bind fun t318 => ((syzygyref01_Add.f kj2 l0 l1).bind fun t321 => ((syzygyref01_Same.f kj2 t318 t321).bind fun t324 => (if t324 = true then ((syzygyref01_Same.f kj2 t299 t303).bind fun t325 => (if t325 = true then (if (t300 == t304) = true then ((limb_Mul.f kj2 l0 l1).bind fun t326 => ((syzygyref01_Mul.f kj2 l0 l1).bind fun t329 => ((syzygyref01_Same.f kj2 t326 t329).bind fun t332 => (some t332)))) else (some false)) else (some false))) else (some false))))) else (some false)))) else (some false)))) else (some false))))) = some true := H
        have A12 := Aside0.mk A120
        clear A120
        replace H := Option.bind_eq_some_iff.mp H
        obtain ⟨t307, A130, H⟩ := H
        replace H : ((syzygyref01_Trim.f kj2 l0).bind fun t310 => ((syzygyref01_Same.f kj2 t307 t310).bind fun t313 => (if t313 = true then ((limb_Cmp.f kj2 l0 l1).bind fun t314 => ((syzygyref01_Cmp.f kj2 l0 l1).bind fun t315 => (if t314 = t315 then ((limb_Bits.f kj2 l0).bind fun t316 => ((syzygyref01_Bits.f kj2 l0).bind fun t317 => (if t316 = t317 then ((limb_Add.f kj2 l0 l1).bind fun t318 => ((syzygyref01_Add.f kj2 l0 l1).bind fun t321 => ((syzygyref01_Same.f kj2 t318 t321).bind fun t324 => (if t324 = true then ((syzygyref01_Same.f kj2 t299 t303).bind fun t325 => (if t325 = true then (if (t300 == t304) = true then ((limb_Mul.f kj2 l0 l1).bind fun t326 => ((syzygyref01_Mul.f kj2 l0 l1).bind fun t329 => ((syzygyref01_Same.f kj2 t326 t329).bind fun t332 => (some t332)))) else (some false)) else (some false))) else (some false))))) else (some false)))) else (some false)))) else (some false)))) = some true := H
        have A13 := Aside0.mk A130
        clear A130
        replace H := Option.bind_eq_some_iff.mp H
        obtain ⟨t310, A140, H⟩ := H
        replace H : ((syzygyref01_Same.f kj2 t307 t310).bind fun t313 => (if t313 = true then ((limb_Cmp.f kj2 l0 l1).bind fun t314 => ((syzygyref01_Cmp.f kj2 l0 l1).bind fun t315 => (if t314 = t315 then ((limb_Bits.f kj2 l0).bind fun t316 => ((syzygyref01_Bits.f kj2 l0).bind fun t317 => (if t316 = t317 then ((limb_Add.f kj2 l0 l1).bind fun t318 => ((syzygyref01_Add.f kj2 l0 l1).bind fun t321 => ((syzygyref01_Same.f kj2 t318 t321).bind fun t324 => (if t324 = true then ((syzygyref01_Same.f kj2 t299 t303).bind fun t325 => (if t325 = true then (if (t300 == t304) = true then ((limb_Mul.f kj2 l0 l1).bind fun t326 => ((syzygyref01_Mul.f kj2 l0 l1).bind fun t329 => ((syzygyref01_Same.f kj2 t326 t329).bind fun t332 => (some t332)))) else (some false)) else (some false))) else (some false))))) else (some false)))) else (some false)))) else (some false))) = some true := H
        have A14 := Aside0.mk A140
        clear A140
        replace H := Option.bind_eq_some_iff.mp H
        obtain ⟨t313, A150, H⟩ := H
        replace H : (if t313 = true then ((limb_Cmp.f kj2 l0 l1).bind fun t314 => ((syzygyref01_Cmp.f kj2 l0 l1).bind fun t315 => (if t314 = t315 then ((limb_Bits.f kj2 l0).bind fun t316 => ((syzygyref01_Bits.f kj2 l0).bind fun t317 => (if t316 = t317 then ((limb_Add.f kj2 l0 l1).bind fun t318 => ((syzygyref01_Add.f kj2 l0 l1).bind fun t321 => ((syzygyref01_Same.f kj2 t318 t321).bind fun t324 => (if t324 = true then ((syzygyref01_Same.f kj2 t299 t303).bind fun t325 => (if t325 = true then (if (t300 == t304) = true then ((limb_Mul.f kj2 l0 l1).bind fun t326 => ((syzygyref01_Mul.f kj2 l0 l1).bind fun t329 => ((syzygyref01_Same.f kj2 t326 t329).bind fun t332 => (some t332)))) else (some false)) else (some false))) else (some false))))) else (some false)))) else (some false)))) else (some false)) = some true := H
        have A15 := Aside0.mk A150
        clear A150
        by_cases c16 : t313 = true
        · subst c16
          have H1 : ((limb_Cmp.f kj2 l0 l1).bind fun t314 => ((syzygyref01_Cmp.f kj2 l0 l1).bind fun t315 => (if t314 = t315 then ((limb_Bits.f kj2 l0).bind fun t316 => ((syzygyref01_Bits.f kj2 l0).bind fun t317 => (if t316 = t317 then ((limb_Add.f kj2 l0 l1).bind fun t318 => ((syzygyref01_Add.f kj2 l0 l1).bind fun t321 => ((syzygyref01_Same.f kj2 t318 t321).bind fun t324 => (if t324 = true then ((syzygyref01_Same.f kj2 t299 t303).bind fun t325 => (if t325 = true then (if (t300 == t304) = true then ((limb_Mul.f kj2 l0 l1).bind fun t326 => ((syzygyref01_Mul.f kj2 l0 l1).bind fun t329 => ((syzygyref01_Same.f kj2 t326 t329).bind fun t332 => (some t332)))) else (some false)) else (some false))) else (some false))))) else (some false)))) else (some false)))) = some true := by rw [if_pos rfl] at H; exact H
          clear H
          have H := H1
          clear H1
          replace H := Option.bind_eq_some_iff.mp H
          obtain ⟨t314, A170, H⟩ := H
          replace H : ((syzygyref01_Cmp.f kj2 l0 l1).bind fun t315 => (if t314 = t315 then ((limb_Bits.f kj2 l0).bind fun t316 => ((syzygyref01_Bits.f kj2 l0).bind fun t317 => (if t316 = t317 then ((limb_Add.f kj2 l0 l1).bind fun t318 => ((syzygyref01_Add.f kj2 l0 l1).bind fun t321 => ((syzygyref01_Same.f kj2 t318 t321).bind fun t324 => (if t324 = true then ((syzygyref01_Same.f kj2 t299 t303).bind fun t325 => (if t325 = true then (if (t300 == t304) = true then ((limb_Mul.f kj2 l0 l1).bind fun t326 => ((syzygyref01_Mul.f kj2 l0 l1).bind fun t329 => ((syzygyref01_Same.f kj2 t326 t329).bind fun t332 => (some t332)))) else (some false)) else (some false))) else (some false))))) else (some false)))) else (some false))) = some true := H
          have A17 := Aside0.mk A170
          clear A170
          replace H := Option.bind_eq_some_iff.mp H
          obtain ⟨t315, A180, H⟩ := H
          replace H : (if t314 = t315 then ((limb_Bits.f kj2 l0).bind fun t316 => ((syzygyref01_Bits.f kj2 l0).bind fun t317 => (if t316 = t317 then ((limb_Add.f kj2 l0 l1).bind fun t318 => ((syzygyref01_Add.f kj2 l0 l1).bind fun t321 => ((syzygyref01_Same.f kj2 t318 t321).bind fun t324 => (if t324 = true then ((syzygyref01_Same.f kj2 t299 t303).bind fun t325 => (if t325 = true then (if (t300 == t304) = true then ((limb_Mul.f kj2 l0 l1).bind fun t326 => ((syzygyref01_Mul.f kj2 l0 l1).bind fun t329 => ((syzygyref01_Same.f kj2 t326 t329).bind fun t332 => (some t332)))) else (some false)) else (some false))) else (some false))))) else (some false)))) else (some false)) = some true := H
          have A18 := Aside0.mk A180
          clear A180
          by_cases c19 : t314 = t315
          · rw [if_pos c19] at H
            have c19b0 : (t314 == t315) = true := beq_iff_eq.mpr c19
            have c19b1 : (t314 != t315) = false := bne_eq_false_iff_eq.mpr c19
            clear c19
            replace H := Option.bind_eq_some_iff.mp H
            obtain ⟨t316, A200, H⟩ := H
            replace H : ((syzygyref01_Bits.f kj2 l0).bind fun t317 => (if t316 = t317 then ((limb_Add.f kj2 l0 l1).bind fun t318 => ((syzygyref01_Add.f kj2 l0 l1).bind fun t321 => ((syzygyref01_Same.f kj2 t318 t321).bind fun t324 => (if t324 = true then ((syzygyref01_Same.f kj2 t299 t303).bind fun t325 => (if t325 = true then (if (t300 == t304) = true then ((limb_Mul.f kj2 l0 l1).bind fun t326 => ((syzygyref01_Mul.f kj2 l0 l1).bind fun t329 => ((syzygyref01_Same.f kj2 t326 t329).bind fun t332 => (some t332)))) else (some false)) else (some false))) else (some false))))) else (some false))) = some true := H
            have A20 := Aside0.mk A200
            clear A200
            replace H := Option.bind_eq_some_iff.mp H
            obtain ⟨t317, A210, H⟩ := H
            replace H : (if t316 = t317 then ((limb_Add.f kj2 l0 l1).bind fun t318 => ((syzygyref01_Add.f kj2 l0 l1).bind fun t321 => ((syzygyref01_Same.f kj2 t318 t321).bind fun t324 => (if t324 = true then ((syzygyref01_Same.f kj2 t299 t303).bind fun t325 => (if t325 = true then (if (t300 == t304) = true then ((limb_Mul.f kj2 l0 l1).bind fun t326 => ((syzygyref01_Mul.f kj2 l0 l1).bind fun t329 => ((syzygyref01_Same.f kj2 t326 t329).bind fun t332 => (some t332)))) else (some false)) else (some false))) else (some false))))) else (some false)) = some true := H
            have A21 := Aside0.mk A210
            clear A210
            by_cases c22 : t316 = t317
            · rw [if_pos c22] at H
              have c22b0 : (t316 == t317) = true := beq_iff_eq.mpr c22
              have c22b1 : (t316 != t317) = false := bne_eq_false_iff_eq.mpr c22
              clear c22
              replace H := Option.bind_eq_some_iff.mp H
              obtain ⟨t318, A230, H⟩ := H
              replace H : ((syzygyref01_Add.f kj2 l0 l1).bind fun t321 => ((syzygyref01_Same.f kj2 t318 t321).bind fun t324 => (if t324 = true then ((syzygyref01_Same.f kj2 t299 t303).bind fun t325 => (if t325 = true then (if (t300 == t304) = true then ((limb_Mul.f kj2 l0 l1).bind fun t326 => ((syzygyref01_Mul.f kj2 l0 l1).bind fun t329 => ((syzygyref01_Same.f kj2 t326 t329).bind fun t332 => (some t332)))) else (some false)) else (some false))) else (some false)))) = some true := H
              have A23 := Aside0.mk A230
              clear A230
              replace H := Option.bind_eq_some_iff.mp H
              obtain ⟨t321, A240, H⟩ := H
              replace H : ((syzygyref01_Same.f kj2 t318 t321).bind fun t324 => (if t324 = true then ((syzygyref01_Same.f kj2 t299 t303).bind fun t325 => (if t325 = true then (if (t300 == t304) = true then ((limb_Mul.f kj2 l0 l1).bind fun t326 => ((syzygyref01_Mul.f kj2 l0 l1).bind fun t329 => ((syzygyref01_Same.f kj2 t326 t329).bind fun t332 => (some t332)))) else (some false)) else (some false))) else (some false))) = some true := H
              have A24 := Aside0.mk A240
              clear A240
              replace H := Option.bind_eq_some_iff.mp H
              obtain ⟨t324, A250, H⟩ := H
              replace H : (if t324 = true then ((syzygyref01_Same.f kj2 t299 t303).bind fun t325 => (if t325 = true then (if (t300 == t304) = true then ((limb_Mul.f kj2 l0 l1).bind fun t326 => ((syzygyref01_Mul.f kj2 l0 l1).bind fun t329 => ((syzygyref01_Same.f kj2 t326 t329).bind fun t332 => (some t332)))) else (some false)) else (some false))) else (some false)) = some true := H
              have A25 := Aside0.mk A250
              clear A250
              by_cases c26 : t324 = true
              · subst c26
                have H1 : ((syzygyref01_Same.f kj2 t299 t303).bind fun t325 => (if t325 = true then (if (t300 == t304) = true then ((limb_Mul.f kj2 l0 l1).bind fun t326 => ((syzygyref01_Mul.f kj2 l0 l1).bind fun t329 => ((syzygyref01_Same.f kj2 t326 t329).bind fun t332 => (some t332)))) else (some false)) else (some false))) = some true := by rw [if_pos rfl] at H; exact H
                clear H
                have H := H1
                clear H1
                replace H := Option.bind_eq_some_iff.mp H
                obtain ⟨t325, A270, H⟩ := H
                replace H : (if t325 = true then (if (t300 == t304) = true then ((limb_Mul.f kj2 l0 l1).bind fun t326 => ((syzygyref01_Mul.f kj2 l0 l1).bind fun t329 => ((syzygyref01_Same.f kj2 t326 t329).bind fun t332 => (some t332)))) else (some false)) else (some false)) = some true := H
                have A27 := Aside0.mk A270
                clear A270
                by_cases c28 : t325 = true
                · subst c28
                  have H1 : (if (t300 == t304) = true then ((limb_Mul.f kj2 l0 l1).bind fun t326 => ((syzygyref01_Mul.f kj2 l0 l1).bind fun t329 => ((syzygyref01_Same.f kj2 t326 t329).bind fun t332 => (some t332)))) else (some false)) = some true := by rw [if_pos rfl] at H; exact H
                  clear H
                  have H := H1
                  clear H1
                  by_cases c29 : (t300 == t304) = true
                  · rw [if_pos c29] at H
                    have c29b0 : (t300 == t304) = true := c29
                    (try (have c29b1 : decide (t300 = t304) = true := by simpa using c29))
                    (try (have c29b2 : (t300 == t304) = true := by simpa using c29))
                    clear c29
                    replace H := Option.bind_eq_some_iff.mp H
                    obtain ⟨t326, A300, H⟩ := H
                    replace H : ((syzygyref01_Mul.f kj2 l0 l1).bind fun t329 => ((syzygyref01_Same.f kj2 t326 t329).bind fun t332 => (some t332))) = some true := H
                    have A30 := Aside0.mk A300
                    clear A300
                    replace H := Option.bind_eq_some_iff.mp H
                    obtain ⟨t329, A310, H⟩ := H
                    replace H : ((syzygyref01_Same.f kj2 t326 t329).bind fun t332 => (some t332)) = some true := H
                    have A31 := Aside0.mk A310
                    clear A310
                    replace H := Option.bind_eq_some_iff.mp H
                    obtain ⟨t332, A320, H⟩ := H
                    replace H : (some t332) = some true := H
                    have A32 := Aside0.mk A320
                    clear A320
                    have HRT_ := Aside0.mk (Option.some.inj H)
                    clear H
                    go_wp2_with (first | ((with_reducible refine gate_callee (f := 19) rfl ?_); refine goesL_ (some 21) rfl rfl Try.func19 (by kernel_rfl) rfl #[.slice A0 l0.length c0, .slice A1 l1.length c1] rfl (by (try simp only [List.map_toArray, List.map_cons, List.map_nil]); first | done | rfl | (simp only [List.length_drop, List.length_take]; rfl)) ?_; (with_reducible refine (limb_Sub.calls kj2 _ _ l0 _ _ l1 t299 t300 _ ?side1 ?side2 ?side3 ?side4 A11.out).mono ?_); (case side1 => repeat (first | exact (Kd.C_below HR0.out HB.out) | (with_reducible refine Kd.C_alloc ?_ _) | (with_reducible refine Kd.C_drewN ?_ _) | (with_reducible refine Kd.C_drew ?_))); (case side2 => exact HC0.out); (case side3 => repeat (first | exact (Kd.C_below HR1.out HB.out) | (with_reducible refine Kd.C_alloc ?_ _) | (with_reducible refine Kd.C_drewN ?_ _) | (with_reducible refine Kd.C_drew ?_))); (case side4 => exact HC1.out); rintro e w33 ⟨v301, rfl, ho0, hb⟩; refine ⟨_, rfl, ?_⟩; have n0_ := Aside0.mk (Kd.R_lower ho0 (below_size (by repeat (first | (with_reducible first | exact HB.out | apply below_alloc | apply pw_below_drewN | apply below_drew1) | exact HB.out)))); have n1_ := Aside0.mk (below_step (by repeat (first | (with_reducible first | exact HB.out | apply below_alloc | apply pw_below_drewN | apply below_drew1) | exact HB.out)) hb); clear HB; have HO302 := n0_; have HB := n1_; clear n0_ n1_; (try clear hb); (try clear hb2); (try clear hk); (try clear hi); (try clear ho0)) | ((with_reducible refine gate_callee (f := 22) rfl ?_); refine goesL_ (some 27) rfl rfl Try.func22 (by kernel_rfl) rfl #[.slice A0 l0.length c0, .slice A1 l1.length c1] rfl (by (try simp only [List.map_toArray, List.map_cons, List.map_nil]); first | done | rfl | (simp only [List.length_drop, List.length_take]; rfl)) ?_; (with_reducible refine (syzygyref01_Sub.calls kj2 _ _ l0 _ _ l1 t303 t304 _ ?side1 ?side2 ?side3 ?side4 A12.out).mono ?_); (case side1 => repeat (first | exact (Kd.C_below HR0.out HB.out) | (with_reducible refine Kd.C_alloc ?_ _) | (with_reducible refine Kd.C_drewN ?_ _) | (with_reducible refine Kd.C_drew ?_))); (case side2 => exact HC0.out); (case side3 => repeat (first | exact (Kd.C_below HR1.out HB.out) | (with_reducible refine Kd.C_alloc ?_ _) | (with_reducible refine Kd.C_drewN ?_ _) | (with_reducible refine Kd.C_drew ?_))); (case side4 => exact HC1.out); rintro e w34 ⟨v305, rfl, ho0, hb⟩; refine ⟨_, rfl, ?_⟩; have n0_ := Aside0.mk (Kd.R_elder' (by (with_reducible repeat (first | apply Kd.R_alloc | apply Kd.R_drewN | apply Kd.R_drew)); exact HO302.out) (Kd.R_base ho0) hb); have n1_ := Aside0.mk (Kd.R_lower (Kd.R_new' ho0 (Kd.R_lt (by (with_reducible repeat (first | apply Kd.R_alloc | apply Kd.R_drewN | apply Kd.R_drew)); exact HO302.out))) (below_size (by repeat (first | (with_reducible first | exact HB.out | apply below_alloc | apply pw_below_drewN | apply below_drew1) | exact HB.out)))); have n2_ := Aside0.mk (below_step (by repeat (first | (with_reducible first | exact HB.out | apply below_alloc | apply pw_below_drewN | apply below_drew1) | exact HB.out)) hb); clear HO302; clear HB; have HO302 := n0_; have HO306 := n1_; have HB := n2_; clear n0_ n1_ n2_; (try clear hb); (try clear hb2); (try clear hk); (try clear hi); (try clear ho0)) | ((with_reducible refine gate_callee (f := 23) rfl ?_); refine goesL_ (some 32) rfl rfl Try.func23 (by kernel_rfl) rfl #[.slice A0 l0.length c0] rfl (by (try simp only [List.map_toArray, List.map_cons, List.map_nil]); first | done | rfl | (simp only [List.length_drop, List.length_take]; rfl)) ?_; (with_reducible refine (limb_Trim.calls kj2 _ _ l0 t307 _ ?side1 ?side2 A13.out).mono ?_); (case side1 => repeat (first | exact (Kd.C_below HR0.out HB.out) | (with_reducible refine Kd.C_alloc ?_ _) | (with_reducible refine Kd.C_drewN ?_ _) | (with_reducible refine Kd.C_drew ?_))); (case side2 => exact HC0.out); rintro e w35 ⟨v308, rfl, ho0, hb⟩; refine ⟨_, rfl, ?_⟩; have n0_ := Aside0.mk (Kd.R_elder' (by (with_reducible repeat (first | apply Kd.R_alloc | apply Kd.R_drewN | apply Kd.R_drew)); exact HO302.out) (Kd.R_base ho0) hb); have n1_ := Aside0.mk (Kd.R_elder' (by (with_reducible repeat (first | apply Kd.R_alloc | apply Kd.R_drewN | apply Kd.R_drew)); exact HO306.out) (Kd.R_base ho0) hb); have n2_ := Aside0.mk (Kd.R_lower (Kd.R_new' (Kd.R_new' ho0 (Kd.R_lt (by (with_reducible repeat (first | apply Kd.R_alloc | apply Kd.R_drewN | apply Kd.R_drew)); exact HO302.out))) (Kd.R_lt (by (with_reducible repeat (first | apply Kd.R_alloc | apply Kd.R_drewN | apply Kd.R_drew)); exact HO306.out))) (below_size (by repeat (first | (with_reducible first | exact HB.out | apply below_alloc | apply pw_below_drewN | apply below_drew1) | exact HB.out)))); have n3_ := Aside0.mk (below_step (by repeat (first | (with_reducible first | exact HB.out | apply below_alloc | apply pw_below_drewN | apply below_drew1) | exact HB.out)) hb); clear HO302; clear HO306; clear HB; have HO302 := n0_; have HO306 := n1_; have HO309 := n2_; have HB := n3_; clear n0_ n1_ n2_ n3_; (try clear hb); (try clear hb2); (try clear hk); (try clear hi); (try clear ho0)) | ((with_reducible refine gate_callee (f := 15) rfl ?_); refine goesL_ (some 34) rfl rfl Try.func15 (by kernel_rfl) rfl #[.slice A0 l0.length c0] rfl (by (try simp only [List.map_toArray, List.map_cons, List.map_nil]); first | done | rfl | (simp only [List.length_drop, List.length_take]; rfl)) ?_; (with_reducible refine (syzygyref01_Trim.calls kj2 _ _ l0 t310 _ ?side1 ?side2 A14.out).mono ?_); (case side1 => repeat (first | exact (Kd.C_below HR0.out HB.out) | (with_reducible refine Kd.C_alloc ?_ _) | (with_reducible refine Kd.C_drewN ?_ _) | (with_reducible refine Kd.C_drew ?_))); (case side2 => exact HC0.out); rintro e w36 ⟨v311, rfl, ho0, hb⟩; refine ⟨_, rfl, ?_⟩; have n0_ := Aside0.mk (Kd.R_elder' (by (with_reducible repeat (first | apply Kd.R_alloc | apply Kd.R_drewN | apply Kd.R_drew)); exact HO302.out) (Kd.R_base ho0) hb); have n1_ := Aside0.mk (Kd.R_elder' (by (with_reducible repeat (first | apply Kd.R_alloc | apply Kd.R_drewN | apply Kd.R_drew)); exact HO306.out) (Kd.R_base ho0) hb); have n2_ := Aside0.mk (Kd.R_elder' (by (with_reducible repeat (first | apply Kd.R_alloc | apply Kd.R_drewN | apply Kd.R_drew)); exact HO309.out) (Kd.R_base ho0) hb); have n3_ := Aside0.mk (Kd.R_lower (Kd.R_new' (Kd.R_new' (Kd.R_new' ho0 (Kd.R_lt (by (with_reducible repeat (first | apply Kd.R_alloc | apply Kd.R_drewN | apply Kd.R_drew)); exact HO302.out))) (Kd.R_lt (by (with_reducible repeat (first | apply Kd.R_alloc | apply Kd.R_drewN | apply Kd.R_drew)); exact HO306.out))) (Kd.R_lt (by (with_reducible repeat (first | apply Kd.R_alloc | apply Kd.R_drewN | apply Kd.R_drew)); exact HO309.out))) (below_size (by repeat (first | (with_reducible first | exact HB.out | apply below_alloc | apply pw_below_drewN | apply below_drew1) | exact HB.out)))); have n4_ := Aside0.mk (below_step (by repeat (first | (with_reducible first | exact HB.out | apply below_alloc | apply pw_below_drewN | apply below_drew1) | exact HB.out)) hb); clear HO302; clear HO306; clear HO309; clear HB; have HO302 := n0_; have HO306 := n1_; have HO309 := n2_; have HO312 := n3_; have HB := n4_; clear n0_ n1_ n2_ n3_ n4_; (try clear hb); (try clear hb2); (try clear hk); (try clear hi); (try clear ho0); obtain ⟨Ao37, co37, eo37⟩ := Kd.R_slice HO309.out; subst eo37; obtain ⟨Ao38, co38, eo38⟩ := Kd.R_slice HO312.out; subst eo38) | ((with_reducible refine gate_callee_t (t := 30) rfl ?_); refine goesT_ (some 35) rfl rfl Try.func14 (by kernel_rfl) rfl #[.slice Ao37 t307.length co37, .slice Ao38 t310.length co38] rfl rfl (by (try simp only [List.map_toArray, List.map_cons, List.map_nil]); first | done | rfl | (simp only [List.length_drop, List.length_take]; rfl)) ?_; (with_reducible refine (syzygyref01_Same.calls kj2 _ _ t307 _ _ t310 true _ ?side1 ?side2 ?side3 ?side4 A15.out).mono ?_); (case side1 => repeat (first | exact (Kd.R_reads' HO309.out).2.2 | (with_reducible refine Kd.C_alloc ?_ _) | (with_reducible refine Kd.C_drewN ?_ _) | (with_reducible refine Kd.C_drew ?_))); (case side2 => exact (Kd.R_reads' HO309.out).2.1); (case side3 => repeat (first | exact (Kd.R_reads' HO312.out).2.2 | (with_reducible refine Kd.C_alloc ?_ _) | (with_reducible refine Kd.C_drewN ?_ _) | (with_reducible refine Kd.C_drew ?_))); (case side4 => exact (Kd.R_reads' HO312.out).2.1); rintro e w' ⟨rfl, ⟨nd, rfl⟩⟩; refine ⟨_, rfl, ?_⟩) | ((with_reducible refine gate_dst (N := 39) rfl ?_); refine gate_guard (by first | rfl | kernel_rfl) ?_; dsimp only; (with_reducible refine gate_callee (f := 13) rfl ?_); refine goesL_ (some 39) rfl rfl Try.func13 (by kernel_rfl) rfl #[.slice A0 l0.length c0, .slice A1 l1.length c1] rfl (by (try simp only [List.map_toArray, List.map_cons, List.map_nil]); first | done | rfl | (simp only [List.length_drop, List.length_take]; rfl)) ?_; (with_reducible refine (limb_Cmp.calls kj2 _ _ l0 _ _ l1 t314 _ ?side1 ?side2 ?side3 ?side4 A17.out).mono ?_); (case side1 => repeat (first | exact (Kd.C_below HR0.out (by repeat (first | (with_reducible first | exact HB.out | apply below_alloc | apply pw_below_drewN | apply below_drew1) | exact HB.out))) | (with_reducible refine Kd.C_alloc ?_ _) | (with_reducible refine Kd.C_drewN ?_ _) | (with_reducible refine Kd.C_drew ?_))); (case side2 => exact HC0.out); (case side3 => repeat (first | exact (Kd.C_below HR1.out (by repeat (first | (with_reducible first | exact HB.out | apply below_alloc | apply pw_below_drewN | apply below_drew1) | exact HB.out))) | (with_reducible refine Kd.C_alloc ?_ _) | (with_reducible refine Kd.C_drewN ?_ _) | (with_reducible refine Kd.C_drew ?_))); (case side4 => exact HC1.out); rintro e w39 ⟨rfl, hb⟩; refine ⟨_, rfl, ?_⟩; have n0_ := Aside0.mk (Kd.R_below (by (with_reducible repeat (first | apply Kd.R_alloc | apply Kd.R_drewN | apply Kd.R_drew)); exact HO302.out) hb); have n1_ := Aside0.mk (Kd.R_below (by (with_reducible repeat (first | apply Kd.R_alloc | apply Kd.R_drewN | apply Kd.R_drew)); exact HO306.out) hb); have n2_ := Aside0.mk (Kd.R_below (by (with_reducible repeat (first | apply Kd.R_alloc | apply Kd.R_drewN | apply Kd.R_drew)); exact HO309.out) hb); have n3_ := Aside0.mk (Kd.R_below (by (with_reducible repeat (first | apply Kd.R_alloc | apply Kd.R_drewN | apply Kd.R_drew)); exact HO312.out) hb); have n4_ := Aside0.mk (below_step (by repeat (first | (with_reducible first | exact HB.out | apply below_alloc | apply pw_below_drewN | apply below_drew1) | exact HB.out)) hb); clear HO302; clear HO306; clear HO309; clear HO312; clear HB; have HO302 := n0_; have HO306 := n1_; have HO309 := n2_; have HO312 := n3_; have HB := n4_; clear n0_ n1_ n2_ n3_ n4_; (try clear hb); (try clear hb2); (try clear hk); (try clear hi)) | ((with_reducible refine gate_dst (N := 42) rfl ?_); refine gate_guard (by first | rfl | kernel_rfl) ?_; dsimp only; (with_reducible refine gate_callee (f := 24) rfl ?_); refine goesL_ (some 42) rfl rfl Try.func24 (by kernel_rfl) rfl #[.slice A0 l0.length c0, .slice A1 l1.length c1] rfl (by (try simp only [List.map_toArray, List.map_cons, List.map_nil]); first | done | rfl | (simp only [List.length_drop, List.length_take]; rfl)) ?_; (with_reducible refine (syzygyref01_Cmp.calls kj2 _ _ l0 _ _ l1 t315 _ ?side1 ?side2 ?side3 ?side4 A18.out).mono ?_); (case side1 => repeat (first | exact (Kd.C_below HR0.out HB.out) | (with_reducible refine Kd.C_alloc ?_ _) | (with_reducible refine Kd.C_drewN ?_ _) | (with_reducible refine Kd.C_drew ?_))); (case side2 => exact HC0.out); (case side3 => repeat (first | exact (Kd.C_below HR1.out HB.out) | (with_reducible refine Kd.C_alloc ?_ _) | (with_reducible refine Kd.C_drewN ?_ _) | (with_reducible refine Kd.C_drew ?_))); (case side4 => exact HC1.out); rintro e w40 ⟨rfl, hb⟩; refine ⟨_, rfl, ?_⟩; have n0_ := Aside0.mk (Kd.R_below (by (with_reducible repeat (first | apply Kd.R_alloc | apply Kd.R_drewN | apply Kd.R_drew)); exact HO302.out) hb); have n1_ := Aside0.mk (Kd.R_below (by (with_reducible repeat (first | apply Kd.R_alloc | apply Kd.R_drewN | apply Kd.R_drew)); exact HO306.out) hb); have n2_ := Aside0.mk (Kd.R_below (by (with_reducible repeat (first | apply Kd.R_alloc | apply Kd.R_drewN | apply Kd.R_drew)); exact HO309.out) hb); have n3_ := Aside0.mk (Kd.R_below (by (with_reducible repeat (first | apply Kd.R_alloc | apply Kd.R_drewN | apply Kd.R_drew)); exact HO312.out) hb); have n4_ := Aside0.mk (below_step (by repeat (first | (with_reducible first | exact HB.out | apply below_alloc | apply pw_below_drewN | apply below_drew1) | exact HB.out)) hb); clear HO302; clear HO306; clear HO309; clear HO312; clear HB; have HO302 := n0_; have HO306 := n1_; have HO309 := n2_; have HO312 := n3_; have HB := n4_; clear n0_ n1_ n2_ n3_ n4_; (try clear hb); (try clear hb2); (try clear hk); (try clear hi)) | ((with_reducible refine gate_dst (N := 47) rfl ?_); refine gate_guard (by first | rfl | kernel_rfl) ?_; dsimp only; (with_reducible refine gate_callee (f := 20) rfl ?_); refine goesL_ (some 47) rfl rfl Try.func20 (by kernel_rfl) rfl #[.slice A0 l0.length c0] rfl (by (try simp only [List.map_toArray, List.map_cons, List.map_nil]); first | done | rfl | (simp only [List.length_drop, List.length_take]; rfl)) ?_; (with_reducible refine (limb_Bits.calls kj2 _ _ l0 t316 _ ?side1 ?side2 A20.out).mono ?_); (case side1 => repeat (first | exact (Kd.C_below HR0.out HB.out) | (with_reducible refine Kd.C_alloc ?_ _) | (with_reducible refine Kd.C_drewN ?_ _) | (with_reducible refine Kd.C_drew ?_))); (case side2 => exact HC0.out); rintro e w41 ⟨rfl, hb⟩; refine ⟨_, rfl, ?_⟩; have n0_ := Aside0.mk (Kd.R_below (by (with_reducible repeat (first | apply Kd.R_alloc | apply Kd.R_drewN | apply Kd.R_drew)); exact HO302.out) hb); have n1_ := Aside0.mk (Kd.R_below (by (with_reducible repeat (first | apply Kd.R_alloc | apply Kd.R_drewN | apply Kd.R_drew)); exact HO306.out) hb); have n2_ := Aside0.mk (Kd.R_below (by (with_reducible repeat (first | apply Kd.R_alloc | apply Kd.R_drewN | apply Kd.R_drew)); exact HO309.out) hb); have n3_ := Aside0.mk (Kd.R_below (by (with_reducible repeat (first | apply Kd.R_alloc | apply Kd.R_drewN | apply Kd.R_drew)); exact HO312.out) hb); have n4_ := Aside0.mk (below_step (by repeat (first | (with_reducible first | exact HB.out | apply below_alloc | apply pw_below_drewN | apply below_drew1) | exact HB.out)) hb); clear HO302; clear HO306; clear HO309; clear HO312; clear HB; have HO302 := n0_; have HO306 := n1_; have HO309 := n2_; have HO312 := n3_; have HB := n4_; clear n0_ n1_ n2_ n3_ n4_; (try clear hb); (try clear hb2); (try clear hk); (try clear hi)) | ((with_reducible refine gate_dst (N := 49) rfl ?_); refine gate_guard (by first | rfl | kernel_rfl) ?_; dsimp only; (with_reducible refine gate_callee (f := 25) rfl ?_); refine goesL_ (some 49) rfl rfl Try.func25 (by kernel_rfl) rfl #[.slice A0 l0.length c0] rfl (by (try simp only [List.map_toArray, List.map_cons, List.map_nil]); first | done | rfl | (simp only [List.length_drop, List.length_take]; rfl)) ?_; (with_reducible refine (syzygyref01_Bits.calls kj2 _ _ l0 t317 _ ?side1 ?side2 A21.out).mono ?_); (case side1 => repeat (first | exact (Kd.C_below HR0.out HB.out) | (with_reducible refine Kd.C_alloc ?_ _) | (with_reducible refine Kd.C_drewN ?_ _) | (with_reducible refine Kd.C_drew ?_))); (case side2 => exact HC0.out); rintro e w42 ⟨rfl, hb⟩; refine ⟨_, rfl, ?_⟩; have n0_ := Aside0.mk (Kd.R_below (by (with_reducible repeat (first | apply Kd.R_alloc | apply Kd.R_drewN | apply Kd.R_drew)); exact HO302.out) hb); have n1_ := Aside0.mk (Kd.R_below (by (with_reducible repeat (first | apply Kd.R_alloc | apply Kd.R_drewN | apply Kd.R_drew)); exact HO306.out) hb); have n2_ := Aside0.mk (Kd.R_below (by (with_reducible repeat (first | apply Kd.R_alloc | apply Kd.R_drewN | apply Kd.R_drew)); exact HO309.out) hb); have n3_ := Aside0.mk (Kd.R_below (by (with_reducible repeat (first | apply Kd.R_alloc | apply Kd.R_drewN | apply Kd.R_drew)); exact HO312.out) hb); have n4_ := Aside0.mk (below_step (by repeat (first | (with_reducible first | exact HB.out | apply below_alloc | apply pw_below_drewN | apply below_drew1) | exact HB.out)) hb); clear HO302; clear HO306; clear HO309; clear HO312; clear HB; have HO302 := n0_; have HO306 := n1_; have HO309 := n2_; have HO312 := n3_; have HB := n4_; clear n0_ n1_ n2_ n3_ n4_; (try clear hb); (try clear hb2); (try clear hk); (try clear hi)) | (go_at_call 16; (with_reducible refine (limb_Add.calls kj2 (fun k_ => k_ < w.heap.size) _ _ l0 _ _ l1 t318 _ ?side1 ?side2 ?side3 A23.out).mono ?_); (case side1 => exact Kd.V_mk HC0.out (Kd.F_below (Kd.C_F (Kd.heap_int .u64) HR0.out) (by repeat (first | (with_reducible first | exact HB.out | apply below_alloc | apply pw_below_drewN | apply below_drew1) | exact HB.out)))); (case side2 => repeat (first | exact (Kd.C_below HR1.out HB.out) | (with_reducible refine Kd.C_alloc ?_ _) | (with_reducible refine Kd.C_drewN ?_ _) | (with_reducible refine Kd.C_drew ?_))); (case side3 => exact HC1.out); rintro e w43 ⟨v319, rfl, ho0, hb⟩; have n0_ := Aside0.mk (Kd.R_below (by (with_reducible repeat (first | apply Kd.R_alloc | apply Kd.R_drewN | apply Kd.R_drew)); exact HO302.out) hb); have n1_ := Aside0.mk (Kd.R_below (by (with_reducible repeat (first | apply Kd.R_alloc | apply Kd.R_drewN | apply Kd.R_drew)); exact HO306.out) hb); have n2_ := Aside0.mk (Kd.R_below (by (with_reducible repeat (first | apply Kd.R_alloc | apply Kd.R_drewN | apply Kd.R_drew)); exact HO309.out) hb); have n3_ := Aside0.mk (Kd.R_below (by (with_reducible repeat (first | apply Kd.R_alloc | apply Kd.R_drewN | apply Kd.R_drew)); exact HO312.out) hb); have n4_ := Aside0.mk (Kd.V_lower (Kd.V_mono (ok' := fun k_ => some k_ ≠ (v301 : Value).ownBlock ∧ some k_ ≠ (v305 : Value).ownBlock ∧ some k_ ≠ (.slice Ao37 t307.length co37 : Value).ownBlock ∧ some k_ ≠ (.slice Ao38 t310.length co38 : Value).ownBlock) ho0 (fun k_ hk_ => ⟨Or.elim hk_ (fun hs_ => fun e_ => Nat.not_le.2 hs_ (Kd.R_base HO302.out k_ e_.symm)) (fun hn_ => (Kd.fresh' (Kd.R_lt (by (with_reducible repeat (first | apply Kd.R_alloc | apply Kd.R_drewN | apply Kd.R_drew)); exact HO302.out)) k_ hn_)), Or.elim hk_ (fun hs_ => fun e_ => Nat.not_le.2 hs_ (Kd.R_base HO306.out k_ e_.symm)) (fun hn_ => (Kd.fresh' (Kd.R_lt (by (with_reducible repeat (first | apply Kd.R_alloc | apply Kd.R_drewN | apply Kd.R_drew)); exact HO306.out)) k_ hn_)), Or.elim hk_ (fun hs_ => fun e_ => Nat.not_le.2 hs_ (Kd.R_base HO309.out k_ e_.symm)) (fun hn_ => (Kd.fresh' (Kd.R_lt (by (with_reducible repeat (first | apply Kd.R_alloc | apply Kd.R_drewN | apply Kd.R_drew)); exact HO309.out)) k_ hn_)), Or.elim hk_ (fun hs_ => fun e_ => Nat.not_le.2 hs_ (Kd.R_base HO312.out k_ e_.symm)) (fun hn_ => (Kd.fresh' (Kd.R_lt (by (with_reducible repeat (first | apply Kd.R_alloc | apply Kd.R_drewN | apply Kd.R_drew)); exact HO312.out)) k_ hn_))⟩)) (below_size (by repeat (first | (with_reducible first | exact HB.out | apply below_alloc | apply pw_below_drewN | apply below_drew1) | exact HB.out)))); have n5_ := Aside0.mk (below_step (by repeat (first | (with_reducible first | exact HB.out | apply below_alloc | apply pw_below_drewN | apply below_drew1) | exact HB.out)) hb); clear HO302; clear HO306; clear HO309; clear HO312; clear HB; have HO302 := n0_; have HO306 := n1_; have HO309 := n2_; have HO312 := n3_; have HO320 := n4_; have HB := n5_; clear n0_ n1_ n2_ n3_ n4_ n5_; (try clear hb); (try clear hb2); (try clear hk); (try clear hi); (try clear ho0)) | ((with_reducible refine gate_dst (N := 59) rfl ?_); refine gate_guard (by first | rfl | kernel_rfl) ?_; dsimp only; (with_reducible refine gate_callee (f := 26) rfl ?_); refine goesL_ (some 59) rfl rfl Try.func26 (by kernel_rfl) rfl #[.slice A0 l0.length c0, .slice A1 l1.length c1] rfl (by (try simp only [List.map_toArray, List.map_cons, List.map_nil]); first | done | rfl | (simp only [List.length_drop, List.length_take]; rfl)) ?_; (with_reducible refine (syzygyref01_Add.calls kj2 _ _ l0 _ _ l1 t321 _ ?side1 ?side2 ?side3 ?side4 A24.out).mono ?_); (case side1 => repeat (first | exact (Kd.C_below HR0.out HB.out) | (with_reducible refine Kd.C_alloc ?_ _) | (with_reducible refine Kd.C_drewN ?_ _) | (with_reducible refine Kd.C_drew ?_))); (case side2 => exact HC0.out); (case side3 => repeat (first | exact (Kd.C_below HR1.out HB.out) | (with_reducible refine Kd.C_alloc ?_ _) | (with_reducible refine Kd.C_drewN ?_ _) | (with_reducible refine Kd.C_drew ?_))); (case side4 => exact HC1.out); rintro e w44 ⟨v322, rfl, ho0, hb⟩; refine ⟨_, rfl, ?_⟩; have n0_ := Aside0.mk (Kd.R_elder' (by (with_reducible repeat (first | apply Kd.R_alloc | apply Kd.R_drewN | apply Kd.R_drew)); exact HO302.out) (Kd.R_base ho0) hb); have n1_ := Aside0.mk (Kd.R_elder' (by (with_reducible repeat (first | apply Kd.R_alloc | apply Kd.R_drewN | apply Kd.R_drew)); exact HO306.out) (Kd.R_base ho0) hb); have n2_ := Aside0.mk (Kd.R_elder' (by (with_reducible repeat (first | apply Kd.R_alloc | apply Kd.R_drewN | apply Kd.R_drew)); exact HO309.out) (Kd.R_base ho0) hb); have n3_ := Aside0.mk (Kd.R_elder' (by (with_reducible repeat (first | apply Kd.R_alloc | apply Kd.R_drewN | apply Kd.R_drew)); exact HO312.out) (Kd.R_base ho0) hb); have n4_ := Aside0.mk (Kd.V_elder' (by (with_reducible repeat (first | apply Kd.V_alloc | apply Kd.V_drewN | apply Kd.V_drew)); exact HO320.out) (Kd.R_base ho0) hb); have n5_ := Aside0.mk (Kd.R_lower (Kd.R_new' (Kd.R_new' (Kd.R_new' (Kd.R_new' ho0 (Kd.R_lt (by (with_reducible repeat (first | apply Kd.R_alloc | apply Kd.R_drewN | apply Kd.R_drew)); exact HO302.out))) (Kd.R_lt (by (with_reducible repeat (first | apply Kd.R_alloc | apply Kd.R_drewN | apply Kd.R_drew)); exact HO306.out))) (Kd.R_lt (by (with_reducible repeat (first | apply Kd.R_alloc | apply Kd.R_drewN | apply Kd.R_drew)); exact HO309.out))) (Kd.R_lt (by (with_reducible repeat (first | apply Kd.R_alloc | apply Kd.R_drewN | apply Kd.R_drew)); exact HO312.out))) (below_size (by repeat (first | (with_reducible first | exact HB.out | apply below_alloc | apply pw_below_drewN | apply below_drew1) | exact HB.out)))); have n6_ := Aside0.mk (below_step (by repeat (first | (with_reducible first | exact HB.out | apply below_alloc | apply pw_below_drewN | apply below_drew1) | exact HB.out)) hb); clear HO302; clear HO306; clear HO309; clear HO312; clear HO320; clear HB; have HO302 := n0_; have HO306 := n1_; have HO309 := n2_; have HO312 := n3_; have HO320 := n4_; have HO323 := n5_; have HB := n6_; clear n0_ n1_ n2_ n3_ n4_ n5_ n6_; (try clear hb); (try clear hb2); (try clear hk); (try clear hi); (try clear ho0); obtain ⟨Ao45, co45, eo45⟩ := Kd.V_slice HO320.out; subst eo45; obtain ⟨Ao46, co46, eo46⟩ := Kd.R_slice HO323.out; subst eo46) | ((with_reducible refine gate_dst (N := 60) rfl ?_); refine gate_guard (by first | rfl | kernel_rfl) ?_; dsimp only; (with_reducible refine gate_callee_t (t := 53) rfl ?_); refine goesT_ (some 60) rfl rfl Try.func14 (by kernel_rfl) rfl #[.slice Ao45 t318.length co45, .slice Ao46 t321.length co46] rfl rfl (by (try simp only [List.map_toArray, List.map_cons, List.map_nil]); first | done | rfl | (simp only [List.length_drop, List.length_take]; rfl)) ?_; (with_reducible refine (syzygyref01_Same.calls kj2 _ _ t318 _ _ t321 true _ ?side1 ?side2 ?side3 ?side4 A25.out).mono ?_); (case side1 => repeat (first | exact (Kd.V_reads' HO320.out).2.2 | (with_reducible refine Kd.C_alloc ?_ _) | (with_reducible refine Kd.C_drewN ?_ _) | (with_reducible refine Kd.C_drew ?_))); (case side2 => exact (Kd.V_reads' HO320.out).2.1); (case side3 => repeat (first | exact (Kd.R_reads' HO323.out).2.2 | (with_reducible refine Kd.C_alloc ?_ _) | (with_reducible refine Kd.C_drewN ?_ _) | (with_reducible refine Kd.C_drew ?_))); (case side4 => exact (Kd.R_reads' HO323.out).2.1); rintro e w' ⟨rfl, ⟨nd, rfl⟩⟩; refine ⟨_, rfl, ?_⟩; obtain ⟨Ao47, co47, eo47⟩ := Kd.R_slice HO302.out; subst eo47; obtain ⟨Ao48, co48, eo48⟩ := Kd.R_slice HO306.out; subst eo48) | ((with_reducible refine gate_dst (N := 66) rfl ?_); refine gate_guard (by first | rfl | kernel_rfl) ?_; dsimp only; (with_reducible refine gate_callee_t (t := 63) rfl ?_); refine goesT_ (some 66) rfl rfl Try.func14 (by kernel_rfl) rfl #[.slice Ao47 t299.length co47, .slice Ao48 t303.length co48] rfl rfl (by (try simp only [List.map_toArray, List.map_cons, List.map_nil]); first | done | rfl | (simp only [List.length_drop, List.length_take]; rfl)) ?_; (with_reducible refine (syzygyref01_Same.calls kj2 _ _ t299 _ _ t303 true _ ?side1 ?side2 ?side3 ?side4 A27.out).mono ?_); (case side1 => repeat (first | exact (Kd.R_reads' HO302.out).2.2 | (with_reducible refine Kd.C_alloc ?_ _) | (with_reducible refine Kd.C_drewN ?_ _) | (with_reducible refine Kd.C_drew ?_))); (case side2 => exact (Kd.R_reads' HO302.out).2.1); (case side3 => repeat (first | exact (Kd.R_reads' HO306.out).2.2 | (with_reducible refine Kd.C_alloc ?_ _) | (with_reducible refine Kd.C_drewN ?_ _) | (with_reducible refine Kd.C_drew ?_))); (case side4 => exact (Kd.R_reads' HO306.out).2.1); rintro e w' ⟨rfl, ⟨nd, rfl⟩⟩; refine ⟨_, rfl, ?_⟩) | ((with_reducible refine gate_dst (N := 77) rfl ?_); refine gate_guard (by first | rfl | kernel_rfl) ?_; dsimp only; (with_reducible refine gate_callee (f := 21) rfl ?_); refine goesL_ (some 77) rfl rfl Try.func21 (by kernel_rfl) rfl #[.slice A0 l0.length c0, .slice A1 l1.length c1] rfl (by (try simp only [List.map_toArray, List.map_cons, List.map_nil]); first | done | rfl | (simp only [List.length_drop, List.length_take]; rfl)) ?_; (with_reducible refine (limb_Mul.calls kj2 _ _ l0 _ _ l1 t326 _ ?side1 ?side2 ?side3 ?side4 A30.out).mono ?_); (case side1 => repeat (first | exact (Kd.C_below HR0.out (by repeat (first | (with_reducible first | exact HB.out | apply below_alloc | apply pw_below_drewN | apply below_drew1) | exact HB.out))) | (with_reducible refine Kd.C_alloc ?_ _) | (with_reducible refine Kd.C_drewN ?_ _) | (with_reducible refine Kd.C_drew ?_))); (case side2 => exact HC0.out); (case side3 => repeat (first | exact (Kd.C_below HR1.out (by repeat (first | (with_reducible first | exact HB.out | apply below_alloc | apply pw_below_drewN | apply below_drew1) | exact HB.out))) | (with_reducible refine Kd.C_alloc ?_ _) | (with_reducible refine Kd.C_drewN ?_ _) | (with_reducible refine Kd.C_drew ?_))); (case side4 => exact HC1.out); rintro e w49 ⟨v327, rfl, ho0, hb⟩; refine ⟨_, rfl, ?_⟩; have n0_ := Aside0.mk (Kd.R_elder' (by (with_reducible repeat (first | apply Kd.R_alloc | apply Kd.R_drewN | apply Kd.R_drew)); exact HO302.out) (Kd.R_base ho0) hb); have n1_ := Aside0.mk (Kd.R_elder' (by (with_reducible repeat (first | apply Kd.R_alloc | apply Kd.R_drewN | apply Kd.R_drew)); exact HO306.out) (Kd.R_base ho0) hb); have n2_ := Aside0.mk (Kd.R_elder' (by (with_reducible repeat (first | apply Kd.R_alloc | apply Kd.R_drewN | apply Kd.R_drew)); exact HO309.out) (Kd.R_base ho0) hb); have n3_ := Aside0.mk (Kd.R_elder' (by (with_reducible repeat (first | apply Kd.R_alloc | apply Kd.R_drewN | apply Kd.R_drew)); exact HO312.out) (Kd.R_base ho0) hb); have n4_ := Aside0.mk (Kd.V_elder' (by (with_reducible repeat (first | apply Kd.V_alloc | apply Kd.V_drewN | apply Kd.V_drew)); exact HO320.out) (Kd.R_base ho0) hb); have n5_ := Aside0.mk (Kd.R_elder' (by (with_reducible repeat (first | apply Kd.R_alloc | apply Kd.R_drewN | apply Kd.R_drew)); exact HO323.out) (Kd.R_base ho0) hb); have n6_ := Aside0.mk (Kd.R_lower (Kd.R_new' (Kd.R_new' (Kd.R_new' (Kd.R_new' (Kd.R_new' ho0 (Kd.R_lt (by (with_reducible repeat (first | apply Kd.R_alloc | apply Kd.R_drewN | apply Kd.R_drew)); exact HO302.out))) (Kd.R_lt (by (with_reducible repeat (first | apply Kd.R_alloc | apply Kd.R_drewN | apply Kd.R_drew)); exact HO306.out))) (Kd.R_lt (by (with_reducible repeat (first | apply Kd.R_alloc | apply Kd.R_drewN | apply Kd.R_drew)); exact HO309.out))) (Kd.R_lt (by (with_reducible repeat (first | apply Kd.R_alloc | apply Kd.R_drewN | apply Kd.R_drew)); exact HO312.out))) (Kd.R_lt (by (with_reducible repeat (first | apply Kd.R_alloc | apply Kd.R_drewN | apply Kd.R_drew)); exact HO323.out))) (below_size (by repeat (first | (with_reducible first | exact HB.out | apply below_alloc | apply pw_below_drewN | apply below_drew1) | exact HB.out)))); have n7_ := Aside0.mk (below_step (by repeat (first | (with_reducible first | exact HB.out | apply below_alloc | apply pw_below_drewN | apply below_drew1) | exact HB.out)) hb); clear HO302; clear HO306; clear HO309; clear HO312; clear HO320; clear HO323; clear HB; have HO302 := n0_; have HO306 := n1_; have HO309 := n2_; have HO312 := n3_; have HO320 := n4_; have HO323 := n5_; have HO328 := n6_; have HB := n7_; clear n0_ n1_ n2_ n3_ n4_ n5_ n6_ n7_; (try clear hb); (try clear hb2); (try clear hk); (try clear hi); (try clear ho0)) | ((with_reducible refine gate_dst (N := 80) rfl ?_); refine gate_guard (by first | rfl | kernel_rfl) ?_; dsimp only; (with_reducible refine gate_callee (f := 27) rfl ?_); refine goesL_ (some 80) rfl rfl Try.func27 (by kernel_rfl) rfl #[.slice A0 l0.length c0, .slice A1 l1.length c1] rfl (by (try simp only [List.map_toArray, List.map_cons, List.map_nil]); first | done | rfl | (simp only [List.length_drop, List.length_take]; rfl)) ?_; (with_reducible refine (syzygyref01_Mul.calls kj2 _ _ l0 _ _ l1 t329 _ ?side1 ?side2 ?side3 ?side4 A31.out).mono ?_); (case side1 => repeat (first | exact (Kd.C_below HR0.out HB.out) | (with_reducible refine Kd.C_alloc ?_ _) | (with_reducible refine Kd.C_drewN ?_ _) | (with_reducible refine Kd.C_drew ?_))); (case side2 => exact HC0.out); (case side3 => repeat (first | exact (Kd.C_below HR1.out HB.out) | (with_reducible refine Kd.C_alloc ?_ _) | (with_reducible refine Kd.C_drewN ?_ _) | (with_reducible refine Kd.C_drew ?_))); (case side4 => exact HC1.out); rintro e w50 ⟨v330, rfl, ho0, hb⟩; refine ⟨_, rfl, ?_⟩; have n0_ := Aside0.mk (Kd.R_elder' (by (with_reducible repeat (first | apply Kd.R_alloc | apply Kd.R_drewN | apply Kd.R_drew)); exact HO302.out) (Kd.R_base ho0) hb); have n1_ := Aside0.mk (Kd.R_elder' (by (with_reducible repeat (first | apply Kd.R_alloc | apply Kd.R_drewN | apply Kd.R_drew)); exact HO306.out) (Kd.R_base ho0) hb); have n2_ := Aside0.mk (Kd.R_elder' (by (with_reducible repeat (first | apply Kd.R_alloc | apply Kd.R_drewN | apply Kd.R_drew)); exact HO309.out) (Kd.R_base ho0) hb); have n3_ := Aside0.mk (Kd.R_elder' (by (with_reducible repeat (first | apply Kd.R_alloc | apply Kd.R_drewN | apply Kd.R_drew)); exact HO312.out) (Kd.R_base ho0) hb); have n4_ := Aside0.mk (Kd.V_elder' (by (with_reducible repeat (first | apply Kd.V_alloc | apply Kd.V_drewN | apply Kd.V_drew)); exact HO320.out) (Kd.R_base ho0) hb); have n5_ := Aside0.mk (Kd.R_elder' (by (with_reducible repeat (first | apply Kd.R_alloc | apply Kd.R_drewN | apply Kd.R_drew)); exact HO323.out) (Kd.R_base ho0) hb); have n6_ := Aside0.mk (Kd.R_elder' (by (with_reducible repeat (first | apply Kd.R_alloc | apply Kd.R_drewN | apply Kd.R_drew)); exact HO328.out) (Kd.R_base ho0) hb); have n7_ := Aside0.mk (Kd.R_lower (Kd.R_new' (Kd.R_new' (Kd.R_new' (Kd.R_new' (Kd.R_new' (Kd.R_new' ho0 (Kd.R_lt (by (with_reducible repeat (first | apply Kd.R_alloc | apply Kd.R_drewN | apply Kd.R_drew)); exact HO302.out))) (Kd.R_lt (by (with_reducible repeat (first | apply Kd.R_alloc | apply Kd.R_drewN | apply Kd.R_drew)); exact HO306.out))) (Kd.R_lt (by (with_reducible repeat (first | apply Kd.R_alloc | apply Kd.R_drewN | apply Kd.R_drew)); exact HO309.out))) (Kd.R_lt (by (with_reducible repeat (first | apply Kd.R_alloc | apply Kd.R_drewN | apply Kd.R_drew)); exact HO312.out))) (Kd.R_lt (by (with_reducible repeat (first | apply Kd.R_alloc | apply Kd.R_drewN | apply Kd.R_drew)); exact HO323.out))) (Kd.R_lt (by (with_reducible repeat (first | apply Kd.R_alloc | apply Kd.R_drewN | apply Kd.R_drew)); exact HO328.out))) (below_size (by repeat (first | (with_reducible first | exact HB.out | apply below_alloc | apply pw_below_drewN | apply below_drew1) | exact HB.out)))); have n8_ := Aside0.mk (below_step (by repeat (first | (with_reducible first | exact HB.out | apply below_alloc | apply pw_below_drewN | apply below_drew1) | exact HB.out)) hb); clear HO302; clear HO306; clear HO309; clear HO312; clear HO320; clear HO323; clear HO328; clear HB; have HO302 := n0_; have HO306 := n1_; have HO309 := n2_; have HO312 := n3_; have HO320 := n4_; have HO323 := n5_; have HO328 := n6_; have HO331 := n7_; have HB := n8_; clear n0_ n1_ n2_ n3_ n4_ n5_ n6_ n7_ n8_; (try clear hb); (try clear hb2); (try clear hk); (try clear hi); (try clear ho0); obtain ⟨Ao51, co51, eo51⟩ := Kd.R_slice HO328.out; subst eo51; obtain ⟨Ao52, co52, eo52⟩ := Kd.R_slice HO331.out; subst eo52) | ((with_reducible refine gate_dst (N := 81) rfl ?_); refine gate_guard (by first | rfl | kernel_rfl) ?_; dsimp only; (with_reducible refine gate_callee_t (t := 74) rfl ?_); refine goesT_ (some 81) rfl rfl Try.func14 (by kernel_rfl) rfl #[.slice Ao51 t326.length co51, .slice Ao52 t329.length co52] rfl rfl (by (try simp only [List.map_toArray, List.map_cons, List.map_nil]); first | done | rfl | (simp only [List.length_drop, List.length_take]; rfl)) ?_; (with_reducible refine (syzygyref01_Same.calls kj2 _ _ t326 _ _ t329 t332 _ ?side1 ?side2 ?side3 ?side4 A32.out).mono ?_); (case side1 => repeat (first | exact (Kd.R_reads' HO328.out).2.2 | (with_reducible refine Kd.C_alloc ?_ _) | (with_reducible refine Kd.C_drewN ?_ _) | (with_reducible refine Kd.C_drew ?_))); (case side2 => exact (Kd.R_reads' HO328.out).2.1); (case side3 => repeat (first | exact (Kd.R_reads' HO331.out).2.2 | (with_reducible refine Kd.C_alloc ?_ _) | (with_reducible refine Kd.C_drewN ?_ _) | (with_reducible refine Kd.C_drew ?_))); (case side4 => exact (Kd.R_reads' HO331.out).2.1); rintro e w' ⟨rfl, ⟨nd, rfl⟩⟩; refine ⟨_, rfl, ?_⟩))
                    go_ret
                    exact ⟨by first | rfl | (rw [HRT_.out]; rfl) | (simp only [HRT_.out]; done) | exact of_decide_eq_true HRT_.out | (have h_ := HRT_.out; simp at h_ ⊢; exact h_) | (have h_ := HRT_.out; simp at h_ ⊢; omega) | (have h_ := HRT_.out; simp [h_]; done) | (simp [errW_none, errW_some] <;> rfl) | (simp [*, errW_none, errW_some] <;> rfl), by repeat (first | (with_reducible first | exact HB.out | apply below_alloc | apply pw_below_drewN | apply below_drew1) | exact HB.out)⟩
                  · rw [if_neg c29] at H
                    have c29b0 : (t300 == t304) = false := by simpa using c29
                    (try (have c29b1 : decide (t300 = t304) = false := by simpa using c29))
                    (try (have c29b2 : (t300 == t304) = false := by simpa using c29))
                    (try (have c29b3 : ¬ (t300 = t304) := by simpa using c29))
                    clear c29
                    exact absurd H (by simp)
                · replace c28 := Bool.eq_false_iff.mpr c28
                  subst c28
                  have H1 : (some false) = some true := by rw [if_neg (show ¬ (false = true) by decide)] at H; exact H
                  clear H
                  have H := H1
                  clear H1
                  exact absurd H (by simp)
              · replace c26 := Bool.eq_false_iff.mpr c26
                subst c26
                have H1 : (some false) = some true := by rw [if_neg (show ¬ (false = true) by decide)] at H; exact H
                clear H
                have H := H1
                clear H1
                exact absurd H (by simp)
            · rw [if_neg c22] at H
              have c22b0 : (t316 == t317) = false := beq_eq_false_iff_ne.mpr c22
              have c22b1 : (t316 != t317) = true := bne_iff_ne.mpr c22
              exact absurd H (by simp)
          · rw [if_neg c19] at H
            have c19b0 : (t314 == t315) = false := beq_eq_false_iff_ne.mpr c19
            have c19b1 : (t314 != t315) = true := bne_iff_ne.mpr c19
            exact absurd H (by simp)
        · replace c16 := Bool.eq_false_iff.mpr c16
          subst c16
          have H1 : (some false) = some true := by rw [if_neg (show ¬ (false = true) by decide)] at H; exact H
          clear H
          have H := H1
          clear H1
          exact absurd H (by simp)

/-- THE ONE PURE STATEMENT of syzygylaw01_LimbTells: yours. -/
def syzygylaw01_LimbTells.Pure : Prop := ∀ (l0 : List Int) (l1 : List Int), l0.length ≤ maxLen → l0.length * 8 ≤ 140737488351232 → (∀ x ∈ l0, (Lit.int .u64 x).wf = true) → l1.length ≤ maxLen → l1.length * 8 ≤ 140737488351232 → (∀ x ∈ l1, (Lit.int .u64 x).wf = true) → ∃ k, syzygylaw01_LimbTells.f k l0 l1 = some true
theorem syzygylaw01_LimbTells.walk (P : syzygylaw01_LimbTells.Pure) (a0 : Option Addr) (len0 cap0 : Nat) (z0 : List Int) (a1 : Option Addr) (len1 cap1 : Nat) (z1 : List Int) (w : World) (w0 : (a0 = none ∧ len0 = 0 ∧ cap0 = 0 ∧ z0 = []) ∨ ∃ x, a0 = some x ∧ len0 ≤ cap0 ∧ cap0 ≤ maxLen ∧ z0.length = cap0 ∧ (∀ i, i < z0.length → w.cell? (x.add i) = some (.int .u64 (z0.getD i 0))) ∧ ∀ n ∈ z0, (Lit.int .u64 n).wf = true) (y0 : len0 * 8 ≤ 140737488351232) (w1 : (a1 = none ∧ len1 = 0 ∧ cap1 = 0 ∧ z1 = []) ∨ ∃ x, a1 = some x ∧ len1 ≤ cap1 ∧ cap1 ≤ maxLen ∧ z1.length = cap1 ∧ (∀ i, i < z1.length → w.cell? (x.add i) = some (.int .u64 (z1.getD i 0))) ∧ ∀ n ∈ z1, (Lit.int .u64 n).wf = true) (y1 : len1 * 8 ≤ 140737488351232) :
    Calls Try.prog 9 #[.slice a0 len0 cap0, .slice a1 len1 cap1] w fun e w' => e = .returned (.bool true) ∧ Below w.heap.size w w' := by
  obtain ⟨l0, rfl, hr0, hm0, hw0, hc0⟩ := ReadsInt.ofRowC w0
  obtain ⟨l1, rfl, hr1, hm1, hw1, hc1⟩ := ReadsInt.ofRowC w1
  obtain ⟨k, h⟩ := P l0 l1 hm0 y0 hw0 hm1 y1 hw1
  refine (syzygylaw01_LimbTells.calls k _ _ l0 _ _ l1 w (Kd.C_of_reads (d := (0 : Int)) (h1 := fun _ => rfl) hr0) hc0 (Kd.C_of_reads (d := (0 : Int)) (h1 := fun _ => rfl) hr1) hc1 h).mono ?_
  rintro e w' ⟨rfl, hd⟩
  exact ⟨rfl, hd⟩

end Go.Proofs.Ytdknpbabdkjhfaa.POLimbTells
