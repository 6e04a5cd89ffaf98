-- Written by a program of this session (pr.py, over the kit's print.py).
import Derived.Test.YtfoickaangjmnaaPOQueueBytesx0
import Derived.Test.YtfoickaangjmnaaPOQueueBytesx7
import Derived.Test.YtfoickaangjmnaaPOQueueBytesx9
import Derived.Test.YtfoickaangjmnaaPOQueueBytesx10
import Derived.Test.YtfoickaangjmnaaPOQueueBytesx11
namespace Go.Proofs.Ytfoickaangjmnaa.POQueueBytes
open Go.RowKit Go.Proofs.YtfoickaangjmnaaN Go.Proofs.YtfoickaangjmnaaW.PrintWords Go.Proofs.YtfoickaangjmnaaW.PrintLast Go.Proofs.YtfoickaangjmnaaW.PrintMore
attribute [local go_sem] max2_int min2_int max_two min_two max_three min_three max_four min_four   -- for this text's walks alone
set_option linter.unusedVariables false
set_option linter.unusedSimpArgs false

/-! ### syzygylaw15_QueueBytes: function 6 -/
mutual
def syzygylaw15_QueueBytes.j0 : Nat → List (S26) → ByteArray → ByteArray → Bool → Option (Bool)
  | 0, _, _, _, _ => none
  | k + 1, x0, x1, x2, x36 => if x36 = true then ((syzygylaw15_shown.f).bind fun t186 => (some t186)) else ((queue_Put.f k x0).bind fun bt187 => ((syzygyref15_Put.f k x0).bind fun bt189 => ((queue_Get.f k x1).bind fun bt191 => ((syzygyref15_Get.f k x1).bind fun bt196 => (if bt187.1.toList = bt189.1.toList then (if bt187.2 = bt189.2 then ((syzygyref13_Same.f k bt191.1 bt196.1).bind fun t201 => (if t201 = true then (if bt191.2.1.toList = bt196.2.1.toList then (syzygylaw15_QueueBytes.j1 k x0 x2 bt187.1 bt187.2 (bt191.2.2 != bt196.2.2)) else (syzygylaw15_QueueBytes.j1 k x0 x2 bt187.1 bt187.2 true)) else (syzygylaw15_QueueBytes.j1 k x0 x2 bt187.1 bt187.2 true))) else (syzygylaw15_QueueBytes.j1 k x0 x2 bt187.1 bt187.2 true)) else (syzygylaw15_QueueBytes.j1 k x0 x2 bt187.1 bt187.2 true))))))
def syzygylaw15_QueueBytes.j1 : Nat → List (S26) → ByteArray → ByteArray → Int → Bool → Option (Bool)
  | 0, _, _, _, _, _ => none
  | k + 1, x0, x2, x7, x8, x83 => if x83 = true then (some false) else (if x8 = 0 then (if x7.size + x2.size ≤ 9223372036854775807 then ((queue_Get.f k (x7 ++ x2)).bind fun bt202 => (if bt202.2.2 = 0 then (if bt202.2.1.toList = x2.toList then ((syzygyref13_Same.f k bt202.1 x0).bind fun t207 => (some t207)) else (some false)) else (some false))) else (none)) else (some (x7.toList == ([] : List UInt8))))
end
def syzygylaw15_QueueBytes.f (k : Nat) (l0 : List (S26)) (a1 : ByteArray) (a2 : ByteArray) : Option (Bool) := if (l0.length : Int) > 400 then (syzygylaw15_QueueBytes.j0 k l0 a1 a2 true) else (if (a1.size : Int) > 1000 then (syzygylaw15_QueueBytes.j0 k l0 a1 a2 true) else (if (a2.size : Int) > 100 then (syzygylaw15_QueueBytes.j0 k l0 a1 a2 true) else ((syzygylaw15_shown.f).bind fun t185 => (syzygylaw15_QueueBytes.j0 k l0 a1 a2 (!t185)))))
theorem syzygylaw15_QueueBytes.mono_l : ∀ k, (∀ y0 y1 y2 y3, LeO (syzygylaw15_QueueBytes.j0 k y0 y1 y2 y3) (syzygylaw15_QueueBytes.j0 (k + 1) y0 y1 y2 y3)) ∧ (∀ y0 y1 y2 y3 y4, LeO (syzygylaw15_QueueBytes.j1 k y0 y1 y2 y3 y4) (syzygylaw15_QueueBytes.j1 (k + 1) y0 y1 y2 y3 y4))
  | 0 => ⟨fun _ _ _ _ r h => by simp [syzygylaw15_QueueBytes.j0] at h, fun _ _ _ _ _ r h => by simp [syzygylaw15_QueueBytes.j1] at h⟩
  | k + 1 => by
    obtain ⟨ih0, ih1⟩ := syzygylaw15_QueueBytes.mono_l k
    refine ⟨?_, ?_⟩
    · intro y0 y1 y2 y3
      unfold syzygylaw15_QueueBytes.j0
      repeat' first
      | (with_reducible exact ih0 _ _ _ _)
      | (with_reducible exact ih1 _ _ _ _ _)
      | (with_reducible exact queue_Get.mono _ _)
      | (with_reducible exact queue_Put.mono _ _)
      | (with_reducible exact syzygyref13_Same.mono _ _ _)
      | (with_reducible exact syzygyref15_Get.mono _ _)
      | (with_reducible exact syzygyref15_Put.mono _ _)
      | (with_reducible exact LeO.refl _)
      | (with_reducible exact LeO.none _)
      | (with_reducible refine LeO.ite ?_ ?_)
      | (with_reducible refine LeO.bind ?_ (fun _ => ?_))
      | exact ih0 _ _ _ _
      | exact ih1 _ _ _ _ _
      | exact queue_Get.mono _ _
      | exact queue_Put.mono _ _
      | exact syzygyref13_Same.mono _ _ _
      | exact syzygyref15_Get.mono _ _
      | exact syzygyref15_Put.mono _ _
      | exact LeO.none _
      | refine LeO.ite ?_ ?_
      | refine LeO.bind ?_ (fun _ => ?_)
    · intro y0 y1 y2 y3 y4
      unfold syzygylaw15_QueueBytes.j1
      repeat' first
      | (with_reducible exact ih0 _ _ _ _)
      | (with_reducible exact ih1 _ _ _ _ _)
      | (with_reducible exact queue_Get.mono _ _)
      | (with_reducible exact queue_Put.mono _ _)
      | (with_reducible exact syzygyref13_Same.mono _ _ _)
      | (with_reducible exact syzygyref15_Get.mono _ _)
      | (with_reducible exact syzygyref15_Put.mono _ _)
      | (with_reducible exact LeO.refl _)
      | (with_reducible exact LeO.none _)
      | (with_reducible refine LeO.ite ?_ ?_)
      | (with_reducible refine LeO.bind ?_ (fun _ => ?_))
      | exact ih0 _ _ _ _
      | exact ih1 _ _ _ _ _
      | exact queue_Get.mono _ _
      | exact queue_Put.mono _ _
      | exact syzygyref13_Same.mono _ _ _
      | exact syzygyref15_Get.mono _ _
      | exact syzygyref15_Put.mono _ _
      | exact LeO.none _
      | refine LeO.ite ?_ ?_
      | refine LeO.bind ?_ (fun _ => ?_)
theorem syzygylaw15_QueueBytes.mono : ∀ a0 a1 a2 k, LeO (syzygylaw15_QueueBytes.f k a0 a1 a2) (syzygylaw15_QueueBytes.f (k + 1) a0 a1 a2) := by
  intro a0 a1 a2 k
  obtain ⟨ih0, ih1⟩ := syzygylaw15_QueueBytes.mono_l k
  unfold syzygylaw15_QueueBytes.f
  repeat' first
      | (with_reducible exact ih0 _ _ _ _)
      | (with_reducible exact ih1 _ _ _ _ _)
      | (with_reducible exact queue_Get.mono _ _)
      | (with_reducible exact queue_Put.mono _ _)
      | (with_reducible exact syzygyref13_Same.mono _ _ _)
      | (with_reducible exact syzygyref15_Get.mono _ _)
      | (with_reducible exact syzygyref15_Put.mono _ _)
      | (with_reducible exact LeO.refl _)
      | (with_reducible exact LeO.none _)
      | (with_reducible refine LeO.ite ?_ ?_)
      | (with_reducible refine LeO.bind ?_ (fun _ => ?_))
      | exact ih0 _ _ _ _
      | exact ih1 _ _ _ _ _
      | exact queue_Get.mono _ _
      | exact queue_Put.mono _ _
      | exact syzygyref13_Same.mono _ _ _
      | exact syzygyref15_Get.mono _ _
      | exact syzygyref15_Put.mono _ _
      | exact LeO.none _
      | refine LeO.ite ?_ ?_
      | refine LeO.bind ?_ (fun _ => ?_)
set_option maxHeartbeats 8000000 in
set_option maxRecDepth 100000 in
theorem syzygylaw15_QueueBytes.calls (k : Nat) (A0 : Option Addr) (c0 : Nat) (l0 : List (S26)) (a1 : ByteArray) (a2 : ByteArray) (w : World) (hr0 : Kd.C k26 w A0 l0.length l0) (hc0 : l0.length ≤ c0) (h : syzygylaw15_QueueBytes.f k l0 a1 a2 = some true) :
    Calls Try.prog 6 #[.slice A0 l0.length c0, .string a1, .string a2] w fun e w' => e = .returned (.bool true) ∧ Below w.heap.size w w' := by
  have HR0 := Aside0.mk hr0
  have HC0 := Aside0.mk hc0
  clear hr0 hc0
  have HB := Aside0.mk (Below.refl w.heap.size w)
  have H : (if (l0.length : Int) > 400 then (syzygylaw15_QueueBytes.j0 k l0 a1 a2 true) else (if (a1.size : Int) > 1000 then (syzygylaw15_QueueBytes.j0 k l0 a1 a2 true) else (if (a2.size : Int) > 100 then (syzygylaw15_QueueBytes.j0 k l0 a1 a2 true) else ((syzygylaw15_shown.f).bind fun t185 => (syzygylaw15_QueueBytes.j0 k l0 a1 a2 (!t185)))))) = some true := h
  clear h
  have HC4 := Aside0.mk H
  clear H
  go_enter Try.func6, Try.ntmps6
  go_upto_region 1 with (fail)
  go_cut [36] (fun v36 wc => ∃ (kq : Nat) (x36_3 : Bool), v36 = .bool x36_3 ∧ Aside0 (syzygylaw15_QueueBytes.j0 kq l0 a1 a2 x36_3 = some true) ∧ Aside0 (kq ≤ k) ∧ Aside0 (Below w.heap.size w wc))
  case first =>
    have H := HC4.out
    clear HC4
    by_cases c5 : (l0.length : Int) > 400
    · rw [if_pos c5] at H
      have c5b0 : decide (400 < (l0.length : Int)) = true := decide_eq_true c5
      have c5b1 : decide (400 < l0.length) = true := decide_eq_true (by omega)
      clear c5
      (first | rw [c5b0] | (simp only [i64_w, i32_w]; rw [c5b0]) | skip)
      have H' := Aside0.mk H
      clear H
      go_wp2
      go_meet
      case rel => exact ⟨_, (true), (by first | rfl | (simp; done) | (simp [*]; done)), H', ⟨by first | omega | exact Nat.le_refl _⟩, ⟨by repeat (first | (with_reducible first | exact HB.out | apply below_alloc | apply pw_below_drewN | apply below_drew1) | exact HB.out)⟩⟩
    · rw [if_neg c5] at H
      have c5b0 : decide (400 < (l0.length : Int)) = false := decide_eq_false c5
      have c5b1 : decide (400 < l0.length) = false := decide_eq_false (by omega)
      clear c5
      (first | rw [c5b0] | (simp only [i64_w, i32_w]; rw [c5b0]) | skip)
      by_cases c6 : (a1.size : Int) > 1000
      · rw [if_pos c6] at H
        have c6b0 : decide (1000 < (a1.size : Int)) = true := decide_eq_true c6
        have c6b1 : decide (1000 < a1.size) = true := decide_eq_true (by omega)
        clear c6
        have H' := Aside0.mk H
        clear H
        go_wp2
        go_meet
        case rel => exact ⟨_, (true), (by first | rfl | (simp; done) | (simp [*]; done)), H', ⟨by first | omega | exact Nat.le_refl _⟩, ⟨by repeat (first | (with_reducible first | exact HB.out | apply below_alloc | apply pw_below_drewN | apply below_drew1) | exact HB.out)⟩⟩
      · rw [if_neg c6] at H
        have c6b0 : decide (1000 < (a1.size : Int)) = false := decide_eq_false c6
        have c6b1 : decide (1000 < a1.size) = false := decide_eq_false (by omega)
        clear c6
        by_cases c7 : (a2.size : Int) > 100
        · rw [if_pos c7] at H
          have c7b0 : decide (100 < (a2.size : Int)) = true := decide_eq_true c7
          have c7b1 : decide (100 < a2.size) = true := decide_eq_true (by omega)
          clear c7
          have H' := Aside0.mk H
          clear H
          go_wp2
          go_meet
          case rel => exact ⟨_, (true), (by first | rfl | (simp; done) | (simp [*]; done)), H', ⟨by first | omega | exact Nat.le_refl _⟩, ⟨by repeat (first | (with_reducible first | exact HB.out | apply below_alloc | apply pw_below_drewN | apply below_drew1) | exact HB.out)⟩⟩
        · rw [if_neg c7] at H
          have c7b0 : decide (100 < (a2.size : Int)) = false := decide_eq_false c7
          have c7b1 : decide (100 < a2.size) = false := decide_eq_false (by omega)
          clear c7
          replace H := Option.bind_eq_some_iff.mp H
          obtain ⟨t185, A80, H⟩ := H
          replace H : (syzygylaw15_QueueBytes.j0 k l0 a1 a2 (!t185)) = some true := H
          have A8 := Aside0.mk A80
          clear A80
          have H' := Aside0.mk H
          clear H
          go_wp2_with (first | ((with_reducible refine gate_dst (N := 34) rfl ?_); (try (refine gate_guard (by rfl) ?_; dsimp only)); refine gate_guard (by first | rfl | kernel_rfl) ?_; dsimp only; (with_reducible refine gate_callee (f := 14) rfl ?_); refine goesL_ (some 34) rfl rfl Try.func14 (by kernel_rfl) rfl #[] rfl (by (try simp only [List.map_toArray, List.map_cons, List.map_nil]); first | done | rfl | (simp only [List.length_drop, List.length_take]; rfl)) ?_; (with_reducible refine (syzygylaw15_shown.calls  t185 _ A8.out).mono ?_); rintro e w9 ⟨rfl, hb⟩; refine ⟨_, rfl, ?_⟩; have n0_ := Aside0.mk (below_step (by repeat (first | (with_reducible first | exact HB.out | apply below_alloc | apply pw_below_drewN | apply below_drew1) | exact HB.out)) hb); clear HB; have HB := n0_; clear n0_; (try clear hb); (try clear hb2); (try clear hk); (try clear hi)))
          go_meet
          case rel => exact ⟨_, (!t185), (by first | rfl | (simp; done) | (simp [*]; done)), H', ⟨by first | omega | exact Nat.le_refl _⟩, ⟨by repeat (first | (with_reducible first | exact HB.out | apply below_alloc | apply pw_below_drewN | apply below_drew1) | exact HB.out)⟩⟩
  case rest =>
    clear HC4
    try clear c1
    try clear p2
    try clear c5
    try clear c5b0
    try clear c5b1
    try clear c6
    try clear c6b0
    try clear c6b1
    try clear c7
    try clear c7b0
    try clear c7b1
    obtain ⟨kq, x36_3, rfl, HA, HJ3, HB⟩ := hcut
    cases kq with
    | zero => exact absurd HA.out (by simp [syzygylaw15_QueueBytes.j0])
    | succ kj3 =>
      have H := HA.out
      clear HA
      simp only [syzygylaw15_QueueBytes.j0] at H
      by_cases c10 : x36_3 = true
      · subst c10
        have H1 : ((syzygylaw15_shown.f).bind fun t186 => (some t186)) = some true := by rw [if_pos rfl] at H; exact H
        clear H
        have H := H1
        clear H1
        replace H := Option.bind_eq_some_iff.mp H
        obtain ⟨t186, A110, H⟩ := H
        replace H : (some t186) = some true := H
        have A11 := Aside0.mk A110
        clear A110
        have HRT_ := Aside0.mk (Option.some.inj H)
        clear H
        go_wp2_with (first | ((with_reducible refine gate_callee (f := 14) rfl ?_); refine goesL_ (some 37) rfl rfl Try.func14 (by kernel_rfl) rfl #[] rfl (by (try simp only [List.map_toArray, List.map_cons, List.map_nil]); first | done | rfl | (simp only [List.length_drop, List.length_take]; rfl)) ?_; (with_reducible refine (syzygylaw15_shown.calls  t186 _ A11.out).mono ?_); rintro e w12 ⟨rfl, hb⟩; refine ⟨_, rfl, ?_⟩; have n0_ := Aside0.mk (below_step (by repeat (first | (with_reducible first | exact HB.out | apply below_alloc | apply pw_below_drewN | apply below_drew1) | exact HB.out)) hb); clear HB; have HB := n0_; clear n0_; (try clear hb); (try clear hb2); (try clear hk); (try clear hi)))
        go_ret
        exact ⟨by first | rfl | (rw [HRT_.out]; rfl) | (simp only [HRT_.out]; done) | exact of_decide_eq_true HRT_.out | (have h_ := HRT_.out; simp at h_ ⊢; exact h_) | (have h_ := HRT_.out; simp at h_ ⊢; omega) | (have h_ := HRT_.out; simp [h_]; done) | (simp [errW_none, errW_some] <;> rfl) | (simp [*, errW_none, errW_some] <;> rfl), by repeat (first | (with_reducible first | exact HB.out | apply below_alloc | apply pw_below_drewN | apply below_drew1) | exact HB.out)⟩
      · replace c10 := Bool.eq_false_iff.mpr c10
        subst c10
        have H1 : ((queue_Put.f kj3 l0).bind fun bt187 => ((syzygyref15_Put.f kj3 l0).bind fun bt189 => ((queue_Get.f kj3 a1).bind fun bt191 => ((syzygyref15_Get.f kj3 a1).bind fun bt196 => (if bt187.1.toList = bt189.1.toList then (if bt187.2 = bt189.2 then ((syzygyref13_Same.f kj3 bt191.1 bt196.1).bind fun t201 => (if t201 = true then (if bt191.2.1.toList = bt196.2.1.toList then (syzygylaw15_QueueBytes.j1 kj3 l0 a2 bt187.1 bt187.2 (bt191.2.2 != bt196.2.2)) else (syzygylaw15_QueueBytes.j1 kj3 l0 a2 bt187.1 bt187.2 true)) else (syzygylaw15_QueueBytes.j1 kj3 l0 a2 bt187.1 bt187.2 true))) else (syzygylaw15_QueueBytes.j1 kj3 l0 a2 bt187.1 bt187.2 true)) else (syzygylaw15_QueueBytes.j1 kj3 l0 a2 bt187.1 bt187.2 true)))))) = some true := by rw [if_neg (show ¬ (false = true) by decide)] at H; exact H
        clear H
        have H := H1
        clear H1
        replace H := Option.bind_eq_some_iff.mp H
        obtain ⟨⟨t187, t188⟩, A130, H⟩ := H
        replace H : ((syzygyref15_Put.f kj3 l0).bind fun bt189 => ((queue_Get.f kj3 a1).bind fun bt191 => ((syzygyref15_Get.f kj3 a1).bind fun bt196 => (if t187.toList = bt189.1.toList then (if t188 = bt189.2 then ((syzygyref13_Same.f kj3 bt191.1 bt196.1).bind fun t201 => (if t201 = true then (if bt191.2.1.toList = bt196.2.1.toList then (syzygylaw15_QueueBytes.j1 kj3 l0 a2 t187 t188 (bt191.2.2 != bt196.2.2)) else (syzygylaw15_QueueBytes.j1 kj3 l0 a2 t187 t188 true)) else (syzygylaw15_QueueBytes.j1 kj3 l0 a2 t187 t188 true))) else (syzygylaw15_QueueBytes.j1 kj3 l0 a2 t187 t188 true)) else (syzygylaw15_QueueBytes.j1 kj3 l0 a2 t187 t188 true))))) = some true := H
        have A13 := Aside0.mk A130
        clear A130
        replace H := Option.bind_eq_some_iff.mp H
        obtain ⟨⟨t189, t190⟩, A140, H⟩ := H
        replace H : ((queue_Get.f kj3 a1).bind fun bt191 => ((syzygyref15_Get.f kj3 a1).bind fun bt196 => (if t187.toList = t189.toList then (if t188 = t190 then ((syzygyref13_Same.f kj3 bt191.1 bt196.1).bind fun t201 => (if t201 = true then (if bt191.2.1.toList = bt196.2.1.toList then (syzygylaw15_QueueBytes.j1 kj3 l0 a2 t187 t188 (bt191.2.2 != bt196.2.2)) else (syzygylaw15_QueueBytes.j1 kj3 l0 a2 t187 t188 true)) else (syzygylaw15_QueueBytes.j1 kj3 l0 a2 t187 t188 true))) else (syzygylaw15_QueueBytes.j1 kj3 l0 a2 t187 t188 true)) else (syzygylaw15_QueueBytes.j1 kj3 l0 a2 t187 t188 true)))) = some true := H
        have A14 := Aside0.mk A140
        clear A140
        replace H := Option.bind_eq_some_iff.mp H
        obtain ⟨⟨t191, t192, t193⟩, A150, H⟩ := H
        replace H : ((syzygyref15_Get.f kj3 a1).bind fun bt196 => (if t187.toList = t189.toList then (if t188 = t190 then ((syzygyref13_Same.f kj3 t191 bt196.1).bind fun t201 => (if t201 = true then (if t192.toList = bt196.2.1.toList then (syzygylaw15_QueueBytes.j1 kj3 l0 a2 t187 t188 (t193 != bt196.2.2)) else (syzygylaw15_QueueBytes.j1 kj3 l0 a2 t187 t188 true)) else (syzygylaw15_QueueBytes.j1 kj3 l0 a2 t187 t188 true))) else (syzygylaw15_QueueBytes.j1 kj3 l0 a2 t187 t188 true)) else (syzygylaw15_QueueBytes.j1 kj3 l0 a2 t187 t188 true))) = some true := H
        have A15 := Aside0.mk A150
        clear A150
        replace H := Option.bind_eq_some_iff.mp H
        obtain ⟨⟨t196, t197, t198⟩, A160, H⟩ := H
        replace H : (if t187.toList = t189.toList then (if t188 = t190 then ((syzygyref13_Same.f kj3 t191 t196).bind fun t201 => (if t201 = true then (if t192.toList = t197.toList then (syzygylaw15_QueueBytes.j1 kj3 l0 a2 t187 t188 (t193 != t198)) else (syzygylaw15_QueueBytes.j1 kj3 l0 a2 t187 t188 true)) else (syzygylaw15_QueueBytes.j1 kj3 l0 a2 t187 t188 true))) else (syzygylaw15_QueueBytes.j1 kj3 l0 a2 t187 t188 true)) else (syzygylaw15_QueueBytes.j1 kj3 l0 a2 t187 t188 true)) = some true := H
        have A16 := Aside0.mk A160
        clear A160
        have HC17 := Aside0.mk H
        clear H
        go_upto_region 7 with (first | ((with_reducible refine gate_callee (f := 24) rfl ?_); refine goesL_ (some 40) rfl rfl Try.func24 (by kernel_rfl) rfl #[.slice A0 l0.length c0] rfl (by (try simp only [List.map_toArray, List.map_cons, List.map_nil]); first | done | rfl | (simp only [List.length_drop, List.length_take]; rfl)) ?_; (with_reducible refine (queue_Put.calls kj3 _ _ l0 t187 t188 _ ?side1 ?side2 A13.out).mono ?_); (case side1 => repeat (first | exact (Kd.C_below HR0.out HB.out) | (with_reducible refine Kd.C_alloc ?_ _) | (with_reducible refine Kd.C_drewN ?_ _) | (with_reducible refine Kd.C_drew ?_))); (case side2 => exact HC0.out); rintro e w18 ⟨rfl, hb⟩; refine ⟨_, rfl, ?_⟩; have n0_ := Aside0.mk (below_step (by repeat (first | (with_reducible first | exact HB.out | apply below_alloc | apply pw_below_drewN | apply below_drew1) | exact HB.out)) hb); clear HB; have HB := n0_; clear n0_; (try clear hb); (try clear hb2); (try clear hk); (try clear hi)) | ((with_reducible refine gate_callee (f := 25) rfl ?_); refine goesL_ (some 45) rfl rfl Try.func25 (by kernel_rfl) rfl #[.slice A0 l0.length c0] rfl (by (try simp only [List.map_toArray, List.map_cons, List.map_nil]); first | done | rfl | (simp only [List.length_drop, List.length_take]; rfl)) ?_; (with_reducible refine (syzygyref15_Put.calls kj3 _ _ l0 t189 t190 _ ?side1 ?side2 A14.out).mono ?_); (case side1 => repeat (first | exact (Kd.C_below HR0.out HB.out) | (with_reducible refine Kd.C_alloc ?_ _) | (with_reducible refine Kd.C_drewN ?_ _) | (with_reducible refine Kd.C_drew ?_))); (case side2 => exact HC0.out); rintro e w19 ⟨rfl, hb⟩; refine ⟨_, rfl, ?_⟩; have n0_ := Aside0.mk (below_step (by repeat (first | (with_reducible first | exact HB.out | apply below_alloc | apply pw_below_drewN | apply below_drew1) | exact HB.out)) hb); clear HB; have HB := n0_; clear n0_; (try clear hb); (try clear hb2); (try clear hk); (try clear hi)) | ((with_reducible refine gate_callee (f := 26) rfl ?_); refine goesL_ (some 50) rfl rfl Try.func26 (by kernel_rfl) rfl #[.string a1] rfl (by (try simp only [List.map_toArray, List.map_cons, List.map_nil]); first | done | rfl | (simp only [List.length_drop, List.length_take]; rfl)) ?_; (with_reducible refine (queue_Get.calls kj3 a1 t191 t192 t193 _ A15.out).mono ?_); rintro e w20 ⟨v194, rfl, ho0, hb⟩; refine ⟨_, rfl, ?_⟩; have n0_ := Aside0.mk (Kd.R_lower ho0 (below_size (by repeat (first | (with_reducible first | exact HB.out | apply below_alloc | apply pw_below_drewN | apply below_drew1) | exact HB.out)))); have n1_ := Aside0.mk (below_step (by repeat (first | (with_reducible first | exact HB.out | apply below_alloc | apply pw_below_drewN | apply below_drew1) | exact HB.out)) hb); clear HB; have HO195 := n0_; have HB := n1_; clear n0_ n1_; (try clear hb); (try clear hb2); (try clear hk); (try clear hi); (try clear ho0)) | ((with_reducible refine gate_callee (f := 27) rfl ?_); refine goesL_ (some 56) rfl rfl Try.func27 (by kernel_rfl) rfl #[.string a1] rfl (by (try simp only [List.map_toArray, List.map_cons, List.map_nil]); first | done | rfl | (simp only [List.length_drop, List.length_take]; rfl)) ?_; (with_reducible refine (syzygyref15_Get.calls kj3 a1 t196 t197 t198 _ A16.out).mono ?_); rintro e w21 ⟨v199, rfl, ho0, hb⟩; refine ⟨_, rfl, ?_⟩; have n0_ := Aside0.mk (Kd.R_elder' (by (with_reducible repeat (first | apply Kd.R_alloc | apply Kd.R_drewN | apply Kd.R_drew)); exact HO195.out) (Kd.R_base ho0) hb); have n1_ := Aside0.mk (Kd.R_lower (Kd.R_new' ho0 (Kd.R_lt (by (with_reducible repeat (first | apply Kd.R_alloc | apply Kd.R_drewN | apply Kd.R_drew)); exact HO195.out))) (below_size (by repeat (first | (with_reducible first | exact HB.out | apply below_alloc | apply pw_below_drewN | apply below_drew1) | exact HB.out)))); have n2_ := Aside0.mk (below_step (by repeat (first | (with_reducible first | exact HB.out | apply below_alloc | apply pw_below_drewN | apply below_drew1) | exact HB.out)) hb); clear HO195; clear HB; have HO195 := n0_; have HO200 := n1_; have HB := n2_; clear n0_ n1_ n2_; (try clear hb); (try clear hb2); (try clear hk); (try clear hi); (try clear ho0)))
        (try simp only [Act.put, List.setIfInBounds_toArray, List.set_cons_zero, List.set_cons_succ])
        go_cut [83] (fun v83 wc => ∃ (kq : Nat) (x83_16 : Bool), v83 = .bool x83_16 ∧ Aside0 (syzygylaw15_QueueBytes.j1 kq l0 a2 t187 t188 x83_16 = some true) ∧ Aside0 (kq ≤ kj3) ∧ Aside0 (Below w.heap.size w wc))
        case first =>
          have H := HC17.out
          clear HC17
          by_cases c22 : t187.toList = t189.toList
          · rw [if_pos c22] at H
            have c22b0 : (t187.toList == t189.toList) = true := beq_iff_eq.mpr c22
            have c22b1 : (t187.toList != t189.toList) = false := bne_eq_false_iff_eq.mpr c22
            clear c22
            (first | rw [c22b0] | (simp only [i64_w, i32_w]; rw [c22b0]) | skip)
            by_cases c23 : t188 = t190
            · rw [if_pos c23] at H
              have c23b0 : (t188 == t190) = true := beq_iff_eq.mpr c23
              have c23b1 : (t188 != t190) = false := bne_eq_false_iff_eq.mpr c23
              clear c23
              replace H := Option.bind_eq_some_iff.mp H
              obtain ⟨t201, A240, H⟩ := H
              replace H : (if t201 = true then (if t192.toList = t197.toList then (syzygylaw15_QueueBytes.j1 kj3 l0 a2 t187 t188 (t193 != t198)) else (syzygylaw15_QueueBytes.j1 kj3 l0 a2 t187 t188 true)) else (syzygylaw15_QueueBytes.j1 kj3 l0 a2 t187 t188 true)) = some true := H
              have A24 := Aside0.mk A240
              clear A240
              by_cases c25 : t201 = true
              · subst c25
                have H1 : (if t192.toList = t197.toList then (syzygylaw15_QueueBytes.j1 kj3 l0 a2 t187 t188 (t193 != t198)) else (syzygylaw15_QueueBytes.j1 kj3 l0 a2 t187 t188 true)) = some true := by rw [if_pos rfl] at H; exact H
                clear H
                have H := H1
                clear H1
                by_cases c26 : t192.toList = t197.toList
                · rw [if_pos c26] at H
                  have c26b0 : (t192.toList == t197.toList) = true := beq_iff_eq.mpr c26
                  have c26b1 : (t192.toList != t197.toList) = false := bne_eq_false_iff_eq.mpr c26
                  clear c26
                  have H' := Aside0.mk H
                  clear H
                  obtain ⟨Ao27, co27, eo27⟩ := Kd.R_slice HO195.out
                  subst eo27
                  obtain ⟨Ao28, co28, eo28⟩ := Kd.R_slice HO200.out
                  subst eo28
                  go_wp2_with (first | ((with_reducible refine gate_dst (N := 71) rfl ?_); (try (refine gate_guard (by rfl) ?_; dsimp only)); refine gate_guard (by first | rfl | kernel_rfl) ?_; dsimp only; (with_reducible refine gate_callee (f := 19) rfl ?_); refine goesL_ (some 71) rfl rfl Try.func19 (by kernel_rfl) rfl #[.slice Ao27 t191.length co27, .slice Ao28 t196.length co28] rfl (by (try simp only [List.map_toArray, List.map_cons, List.map_nil]); first | done | rfl | (simp only [List.length_drop, List.length_take]; rfl)) ?_; (with_reducible refine (syzygyref13_Same.calls kj3 _ _ t191 _ _ t196 true _ ?side1 ?side2 ?side3 ?side4 A24.out).mono ?_); (case side1 => repeat (first | exact (Kd.R_reads' HO195.out).2.2 | (with_reducible refine Kd.C_alloc ?_ _) | (with_reducible refine Kd.C_drewN ?_ _) | (with_reducible refine Kd.C_drew ?_))); (case side2 => exact (Kd.R_reads' HO195.out).2.1); (case side3 => repeat (first | exact (Kd.R_reads' HO200.out).2.2 | (with_reducible refine Kd.C_alloc ?_ _) | (with_reducible refine Kd.C_drewN ?_ _) | (with_reducible refine Kd.C_drew ?_))); (case side4 => exact (Kd.R_reads' HO200.out).2.1); rintro e w' ⟨rfl, ⟨nd, rfl⟩⟩; refine ⟨_, rfl, ?_⟩))
                  go_meet
                  case rel => exact ⟨_, ((t193 != t198)), (by first | rfl | (simp; done) | (simp [*]; done)), H', ⟨by have := HJ3.out; first | omega | exact Nat.le_refl _⟩, ⟨by repeat (first | (with_reducible first | exact HB.out | apply below_alloc | apply pw_below_drewN | apply below_drew1) | exact HB.out)⟩⟩
                · rw [if_neg c26] at H
                  have c26b0 : (t192.toList == t197.toList) = false := beq_eq_false_iff_ne.mpr c26
                  have c26b1 : (t192.toList != t197.toList) = true := bne_iff_ne.mpr c26
                  have H' := Aside0.mk H
                  clear H
                  obtain ⟨Ao29, co29, eo29⟩ := Kd.R_slice HO195.out
                  subst eo29
                  obtain ⟨Ao30, co30, eo30⟩ := Kd.R_slice HO200.out
                  subst eo30
                  go_wp2_with (first | ((with_reducible refine gate_dst (N := 71) rfl ?_); (try (refine gate_guard (by rfl) ?_; dsimp only)); refine gate_guard (by first | rfl | kernel_rfl) ?_; dsimp only; (with_reducible refine gate_callee (f := 19) rfl ?_); refine goesL_ (some 71) rfl rfl Try.func19 (by kernel_rfl) rfl #[.slice Ao29 t191.length co29, .slice Ao30 t196.length co30] rfl (by (try simp only [List.map_toArray, List.map_cons, List.map_nil]); first | done | rfl | (simp only [List.length_drop, List.length_take]; rfl)) ?_; (with_reducible refine (syzygyref13_Same.calls kj3 _ _ t191 _ _ t196 true _ ?side1 ?side2 ?side3 ?side4 A24.out).mono ?_); (case side1 => repeat (first | exact (Kd.R_reads' HO195.out).2.2 | (with_reducible refine Kd.C_alloc ?_ _) | (with_reducible refine Kd.C_drewN ?_ _) | (with_reducible refine Kd.C_drew ?_))); (case side2 => exact (Kd.R_reads' HO195.out).2.1); (case side3 => repeat (first | exact (Kd.R_reads' HO200.out).2.2 | (with_reducible refine Kd.C_alloc ?_ _) | (with_reducible refine Kd.C_drewN ?_ _) | (with_reducible refine Kd.C_drew ?_))); (case side4 => exact (Kd.R_reads' HO200.out).2.1); rintro e w' ⟨rfl, ⟨nd, rfl⟩⟩; refine ⟨_, rfl, ?_⟩))
                  go_meet
                  case rel => exact ⟨_, (true), (by first | rfl | (simp; done) | (simp [*]; done)), H', ⟨by have := HJ3.out; first | omega | exact Nat.le_refl _⟩, ⟨by repeat (first | (with_reducible first | exact HB.out | apply below_alloc | apply pw_below_drewN | apply below_drew1) | exact HB.out)⟩⟩
              · replace c25 := Bool.eq_false_iff.mpr c25
                subst c25
                have H1 : (syzygylaw15_QueueBytes.j1 kj3 l0 a2 t187 t188 true) = some true := by rw [if_neg (show ¬ (false = true) by decide)] at H; exact H
                clear H
                have H := H1
                clear H1
                have H' := Aside0.mk H
                clear H
                obtain ⟨Ao31, co31, eo31⟩ := Kd.R_slice HO195.out
                subst eo31
                obtain ⟨Ao32, co32, eo32⟩ := Kd.R_slice HO200.out
                subst eo32
                go_wp2_with (first | ((with_reducible refine gate_dst (N := 71) rfl ?_); (try (refine gate_guard (by rfl) ?_; dsimp only)); refine gate_guard (by first | rfl | kernel_rfl) ?_; dsimp only; (with_reducible refine gate_callee (f := 19) rfl ?_); refine goesL_ (some 71) rfl rfl Try.func19 (by kernel_rfl) rfl #[.slice Ao31 t191.length co31, .slice Ao32 t196.length co32] rfl (by (try simp only [List.map_toArray, List.map_cons, List.map_nil]); first | done | rfl | (simp only [List.length_drop, List.length_take]; rfl)) ?_; (with_reducible refine (syzygyref13_Same.calls kj3 _ _ t191 _ _ t196 false _ ?side1 ?side2 ?side3 ?side4 A24.out).mono ?_); (case side1 => repeat (first | exact (Kd.R_reads' HO195.out).2.2 | (with_reducible refine Kd.C_alloc ?_ _) | (with_reducible refine Kd.C_drewN ?_ _) | (with_reducible refine Kd.C_drew ?_))); (case side2 => exact (Kd.R_reads' HO195.out).2.1); (case side3 => repeat (first | exact (Kd.R_reads' HO200.out).2.2 | (with_reducible refine Kd.C_alloc ?_ _) | (with_reducible refine Kd.C_drewN ?_ _) | (with_reducible refine Kd.C_drew ?_))); (case side4 => exact (Kd.R_reads' HO200.out).2.1); rintro e w' ⟨rfl, ⟨nd, rfl⟩⟩; refine ⟨_, rfl, ?_⟩))
                go_meet
                case rel => exact ⟨_, (true), (by first | rfl | (simp; done) | (simp [*]; done)), H', ⟨by have := HJ3.out; first | omega | exact Nat.le_refl _⟩, ⟨by repeat (first | (with_reducible first | exact HB.out | apply below_alloc | apply pw_below_drewN | apply below_drew1) | exact HB.out)⟩⟩
            · rw [if_neg c23] at H
              have c23b0 : (t188 == t190) = false := beq_eq_false_iff_ne.mpr c23
              have c23b1 : (t188 != t190) = true := bne_iff_ne.mpr c23
              have H' := Aside0.mk H
              clear H
              go_wp2
              go_meet
              case rel => exact ⟨_, (true), (by first | rfl | (simp; done) | (simp [*]; done)), H', ⟨by have := HJ3.out; first | omega | exact Nat.le_refl _⟩, ⟨by repeat (first | (with_reducible first | exact HB.out | apply below_alloc | apply pw_below_drewN | apply below_drew1) | exact HB.out)⟩⟩
          · rw [if_neg c22] at H
            have c22b0 : (t187.toList == t189.toList) = false := beq_eq_false_iff_ne.mpr c22
            have c22b1 : (t187.toList != t189.toList) = true := bne_iff_ne.mpr c22
            (first | rw [c22b0] | (simp only [i64_w, i32_w]; rw [c22b0]) | skip)
            have H' := Aside0.mk H
            clear H
            go_wp2
            go_meet
            case rel => exact ⟨_, (true), (by first | rfl | (simp; done) | (simp [*]; done)), H', ⟨by have := HJ3.out; first | omega | exact Nat.le_refl _⟩, ⟨by repeat (first | (with_reducible first | exact HB.out | apply below_alloc | apply pw_below_drewN | apply below_drew1) | exact HB.out)⟩⟩
        case rest =>
          clear HC17
          try clear c1
          try clear c2
          try clear p2
          try clear c5
          try clear c5b0
          try clear c5b1
          try clear c6
          try clear c6b0
          try clear c6b1
          try clear c7
          try clear c7b0
          try clear c7b1
          try clear c10
          try clear c14
          try clear c19
          try clear c22
          try clear c22b0
          try clear c22b1
          try clear c23
          try clear c23b0
          try clear c23b1
          try clear c24
          try clear c25
          try clear c26
          try clear c26b0
          try clear c26b1
          try clear c27
          try clear p2
          obtain ⟨kq, x83_16, rfl, HA, HJ16, HB⟩ := hcut
          cases kq with
          | zero => exact absurd HA.out (by simp [syzygylaw15_QueueBytes.j1])
          | succ kj16 =>
            have H := HA.out
            clear HA
            simp only [syzygylaw15_QueueBytes.j1] at H
            by_cases c33 : x83_16 = true
            · subst c33
              have H1 : (some false) = some true := by rw [if_pos rfl] at H; exact H
              clear H
              have H := H1
              clear H1
              exact absurd H (by simp)
            · replace c33 := Bool.eq_false_iff.mpr c33
              subst c33
              have H1 : (if t188 = 0 then (if t187.size + a2.size ≤ 9223372036854775807 then ((queue_Get.f kj16 (t187 ++ a2)).bind fun bt202 => (if bt202.2.2 = 0 then (if bt202.2.1.toList = a2.toList then ((syzygyref13_Same.f kj16 bt202.1 l0).bind fun t207 => (some t207)) else (some false)) else (some false))) else (none)) else (some (t187.toList == ([] : List UInt8)))) = some true := by rw [if_neg (show ¬ (false = true) by decide)] at H; exact H
              clear H
              have H := H1
              clear H1
              by_cases c34 : t188 = 0
              · rw [if_pos c34] at H
                have c34b0 : (t188 == 0) = true := beq_iff_eq.mpr c34
                have c34b1 : (t188 != 0) = false := bne_eq_false_iff_eq.mpr c34
                clear c34
                by_cases c35 : t187.size + a2.size ≤ 9223372036854775807
                · rw [if_pos c35] at H
                  have c35b0 := eq_true c35
                  have c35b1 : decide (t187.size + a2.size ≤ 9223372036854775807) = true := decide_eq_true c35
                  try have c35b2 : (9223372036854775807 < t187.size + a2.size) = False := eq_false (Nat.not_lt.2 c35)
                  replace H := Option.bind_eq_some_iff.mp H
                  obtain ⟨⟨t202, t203, t204⟩, A360, H⟩ := H
                  replace H : (if t204 = 0 then (if t203.toList = a2.toList then ((syzygyref13_Same.f kj16 t202 l0).bind fun t207 => (some t207)) else (some false)) else (some false)) = some true := H
                  have A36 := Aside0.mk A360
                  clear A360
                  by_cases c37 : t204 = 0
                  · rw [if_pos c37] at H
                    have c37b0 : (t204 == 0) = true := beq_iff_eq.mpr c37
                    have c37b1 : (t204 != 0) = false := bne_eq_false_iff_eq.mpr c37
                    clear c37
                    by_cases c38 : t203.toList = a2.toList
                    · rw [if_pos c38] at H
                      have c38b0 : (t203.toList == a2.toList) = true := beq_iff_eq.mpr c38
                      have c38b1 : (t203.toList != a2.toList) = false := bne_eq_false_iff_eq.mpr c38
                      clear c38
                      replace H := Option.bind_eq_some_iff.mp H
                      obtain ⟨t207, A390, H⟩ := H
                      replace H : (some t207) = some true := H
                      have A39 := Aside0.mk A390
                      clear A390
                      have HRT_ := Aside0.mk (Option.some.inj H)
                      clear H
                      go_wp2_with (first | ((with_reducible refine gate_callee (f := 26) rfl ?_); refine goesL_ (some 92) rfl rfl Try.func26 (by kernel_rfl) rfl #[.string (t187 ++ a2)] rfl (by (try simp only [List.map_toArray, List.map_cons, List.map_nil]); first | done | rfl | (simp only [List.length_drop, List.length_take]; rfl)) ?_; (with_reducible refine (queue_Get.calls kj16 (t187 ++ a2) t202 t203 t204 _ A36.out).mono ?_); rintro e w40 ⟨v205, rfl, ho0, hb⟩; refine ⟨_, rfl, ?_⟩; have n0_ := Aside0.mk (Kd.R_lower ho0 (below_size (by repeat (first | (with_reducible first | exact HB.out | apply below_alloc | apply pw_below_drewN | apply below_drew1) | exact HB.out)))); have n1_ := Aside0.mk (below_step (by repeat (first | (with_reducible first | exact HB.out | apply below_alloc | apply pw_below_drewN | apply below_drew1) | exact HB.out)) hb); clear HB; have HO206 := n0_; have HB := n1_; clear n0_ n1_; (try clear hb); (try clear hb2); (try clear hk); (try clear hi); (try clear ho0); obtain ⟨Ao41, co41, eo41⟩ := Kd.R_slice HO206.out; subst eo41) | ((with_reducible refine gate_dst (N := 106) rfl ?_); (try (refine gate_guard (by rfl) ?_; dsimp only)); refine gate_guard (by first | rfl | kernel_rfl) ?_; dsimp only; (with_reducible refine gate_callee (f := 19) rfl ?_); refine goesL_ (some 106) rfl rfl Try.func19 (by kernel_rfl) rfl #[.slice Ao41 t202.length co41, .slice A0 l0.length c0] rfl (by (try simp only [List.map_toArray, List.map_cons, List.map_nil]); first | done | rfl | (simp only [List.length_drop, List.length_take]; rfl)) ?_; (with_reducible refine (syzygyref13_Same.calls kj16 _ _ t202 _ _ l0 t207 _ ?side1 ?side2 ?side3 ?side4 A39.out).mono ?_); (case side1 => repeat (first | exact (Kd.R_reads' HO206.out).2.2 | (with_reducible refine Kd.C_alloc ?_ _) | (with_reducible refine Kd.C_drewN ?_ _) | (with_reducible refine Kd.C_drew ?_))); (case side2 => exact (Kd.R_reads' HO206.out).2.1); (case side3 => repeat (first | exact (Kd.C_below HR0.out HB.out) | (with_reducible refine Kd.C_alloc ?_ _) | (with_reducible refine Kd.C_drewN ?_ _) | (with_reducible refine Kd.C_drew ?_))); (case side4 => exact HC0.out); rintro e w' ⟨rfl, ⟨nd, rfl⟩⟩; refine ⟨_, rfl, ?_⟩))
                      go_ret
                      exact ⟨by first | rfl | (rw [HRT_.out]; rfl) | (simp only [HRT_.out]; done) | exact of_decide_eq_true HRT_.out | (have h_ := HRT_.out; simp at h_ ⊢; exact h_) | (have h_ := HRT_.out; simp at h_ ⊢; omega) | (have h_ := HRT_.out; simp [h_]; done) | (simp [errW_none, errW_some] <;> rfl) | (simp [*, errW_none, errW_some] <;> rfl), by repeat (first | (with_reducible first | exact HB.out | apply below_alloc | apply pw_below_drewN | apply below_drew1) | exact HB.out)⟩
                    · rw [if_neg c38] at H
                      have c38b0 : (t203.toList == a2.toList) = false := beq_eq_false_iff_ne.mpr c38
                      have c38b1 : (t203.toList != a2.toList) = true := bne_iff_ne.mpr c38
                      exact absurd H (by simp)
                  · rw [if_neg c37] at H
                    have c37b0 : (t204 == 0) = false := beq_eq_false_iff_ne.mpr c37
                    have c37b1 : (t204 != 0) = true := bne_iff_ne.mpr c37
                    exact absurd H (by simp)
                · rw [if_neg c35] at H
                  exact absurd H (by simp)
              · rw [if_neg c34] at H
                have c34b0 : (t188 == 0) = false := beq_eq_false_iff_ne.mpr c34
                have c34b1 : (t188 != 0) = true := bne_iff_ne.mpr c34
                have HRT_ := Aside0.mk (Option.some.inj H)
                clear H
                go_wp2
                go_ret
                exact ⟨by first | rfl | (rw [HRT_.out]; rfl) | (simp only [HRT_.out]; done) | exact of_decide_eq_true HRT_.out | (have h_ := HRT_.out; simp at h_ ⊢; exact h_) | (have h_ := HRT_.out; simp at h_ ⊢; omega) | (have h_ := HRT_.out; simp [h_]; done) | (simp [errW_none, errW_some] <;> rfl) | (simp [*, errW_none, errW_some] <;> rfl), by repeat (first | (with_reducible first | exact HB.out | apply below_alloc | apply pw_below_drewN | apply below_drew1) | exact HB.out)⟩

/-- What is told of a parameter. -/
def syzygylaw15_QueueBytes.wf26 (x : S26) : Prop := (Lit.int .i64 x.f0).wf = true ∧ (Lit.int .i64 x.f1).wf = true
/-- THE ONE PURE STATEMENT of syzygylaw15_QueueBytes: yours. -/
def syzygylaw15_QueueBytes.Pure : Prop := ∀ (l0 : List (S26)) (a1 : ByteArray) (a2 : ByteArray), l0.length ≤ maxLen → (∀ x ∈ l0, syzygylaw15_QueueBytes.wf26 x) → a1.size ≤ maxLen → a2.size ≤ maxLen → ∃ k, syzygylaw15_QueueBytes.f k l0 a1 a2 = some true
theorem syzygylaw15_QueueBytes.walk (P : syzygylaw15_QueueBytes.Pure) (A0 : Option Addr) (c0 : Nat) (l0 : List (S26)) (a1 : ByteArray) (a2 : ByteArray) (w : World) (hr0 : Kd.C k26 w A0 l0.length l0) (hc0 : l0.length ≤ c0) (f0 : l0.length ≤ maxLen) (f1 : (∀ x ∈ l0, syzygylaw15_QueueBytes.wf26 x)) (f2 : a1.size ≤ maxLen) (f3 : a2.size ≤ maxLen) :
    Calls Try.prog 6 #[.slice A0 l0.length c0, .string a1, .string a2] w fun e w' => e = .returned (.bool true) ∧ Below w.heap.size w w' := by
  obtain ⟨k, h⟩ := P l0 a1 a2 f0 f1 f2 f3
  refine (syzygylaw15_QueueBytes.calls k A0 c0 l0 a1 a2 w hr0 hc0 h).mono ?_
  rintro e w' ⟨rfl, hd⟩
  exact ⟨rfl, hd⟩

end Go.Proofs.Ytfoickaangjmnaa.POQueueBytes
