-- Written by a program of this session (pr.py, over the kit's print.py).
import Derived.Test.YtmknpclfanblfaaPONatTellsx0
import Derived.Test.YtmknpclfanblfaaPONatTellsx1
import Derived.Test.YtmknpclfanblfaaPONatTellsx2
import Derived.Test.YtmknpclfanblfaaPONatTellsx4
import Derived.Test.YtmknpclfanblfaaPONatTellsx6
import Derived.Test.YtmknpclfanblfaaPONatTellsx7
namespace Go.Proofs.Ytmknpclfanblfaa.PONatTells
open Go.RowKit Go.Proofs.YtmknpclfanblfaaN Go.Proofs.YtmknpclfanblfaaW.PrintWords Go.Proofs.YtmknpclfanblfaaW.PrintLast Go.Proofs.YtmknpclfanblfaaW.PrintMore
attribute [local go_sem] max2_int min2_int max_two min_two max_three min_three max_four min_four   -- for this text's walks alone
set_option linter.unusedVariables false
set_option linter.unusedSimpArgs false

/-! ### syzygylaw02_NatTells: function 14 -/
def syzygylaw02_NatTells.j0 : Nat → List Int → List Int → Int → Bool → Option (Bool)
  | 0, _, _, _, _ => none
  | k + 1, x0, x1, x2, x31 => if x31 = true then ((syzygylaw02_shown.f k).bind fun t327 => (some t327)) else ((nat_Add.f k x0 x1).bind fun bt328 => ((syzygyref02_Add.f k x0 x1).bind fun bt332 => ((nat_Sub.f k x0 x1).bind fun bt336 => ((syzygyref02_Sub.f k x0 x1).bind fun bt340 => ((nat_Mul.f k x0 x1).bind fun bt344 => ((syzygyref02_Mul.f k x0 x1).bind fun bt348 => ((syzygyref02_Same.f k bt328.1 bt332.1).bind fun t352 => (if t352 = true then (if bt328.2 = bt332.2 then ((syzygyref02_Same.f k bt336.1 bt340.1).bind fun t353 => (if t353 = true then (if bt336.2 = bt340.2 then ((syzygyref02_Same.f k bt344.1 bt348.1).bind fun t354 => (if t354 = true then (if bt344.2 = bt348.2 then ((nat_May.f x0).bind fun t355 => ((syzygyref02_May.f x0).bind fun t356 => (if (t355 == t356) = true then ((nat_Cmp.f k x0 x1).bind fun t357 => ((syzygyref02_Cmp.f k x0 x1).bind fun t358 => (if t357 = t358 then ((nat_Of.f x2).bind fun t359 => ((syzygyref02_Of.f k x2).bind fun t362 => ((syzygyref02_Same.f k t359 t362).bind fun t365 => (some t365)))) else (some false)))) else (some false)))) else (some false)) else (some false))) else (some false)) else (some false))) else (some false)) else (some false)))))))))
def syzygylaw02_NatTells.f (k : Nat) (l0 : List Int) (l1 : List Int) (a2 : Int) : Option (Bool) := if (l0.length : Int) > 20 then (syzygylaw02_NatTells.j0 k l0 l1 a2 true) else (if (l1.length : Int) > 20 then (syzygylaw02_NatTells.j0 k l0 l1 a2 true) else ((syzygylaw02_shown.f k).bind fun t326 => (syzygylaw02_NatTells.j0 k l0 l1 a2 (!t326))))
theorem syzygylaw02_NatTells.mono_l : ∀ k, (∀ y0 y1 y2 y3, LeO (syzygylaw02_NatTells.j0 k y0 y1 y2 y3) (syzygylaw02_NatTells.j0 (k + 1) y0 y1 y2 y3))
  | 0 => fun _ _ _ _ r h => by simp [syzygylaw02_NatTells.j0] at h
  | k + 1 => by
    have ih0 := syzygylaw02_NatTells.mono_l k
    · intro y0 y1 y2 y3
      unfold syzygylaw02_NatTells.j0
      repeat' first
      | (with_reducible exact ih0 _ _ _ _)
      | (with_reducible exact nat_Add.mono _ _ _)
      | (with_reducible exact nat_Cmp.mono _ _ _)
      | (with_reducible exact nat_Mul.mono _ _ _)
      | (with_reducible exact nat_Sub.mono _ _ _)
      | (with_reducible exact syzygylaw02_shown.mono _)
      | (with_reducible exact syzygyref02_Add.mono _ _ _)
      | (with_reducible exact syzygyref02_Cmp.mono _ _ _)
      | (with_reducible exact syzygyref02_Mul.mono _ _ _)
      | (with_reducible exact syzygyref02_Of.mono _ _)
      | (with_reducible exact syzygyref02_Same.mono _ _ _)
      | (with_reducible exact syzygyref02_Sub.mono _ _ _)
      | (with_reducible exact LeO.refl _)
      | (with_reducible exact LeO.none _)
      | (with_reducible refine LeO.ite ?_ ?_)
      | (with_reducible refine LeO.bind ?_ (fun _ => ?_))
      | exact ih0 _ _ _ _
      | exact nat_Add.mono _ _ _
      | exact nat_Cmp.mono _ _ _
      | exact nat_Mul.mono _ _ _
      | exact nat_Sub.mono _ _ _
      | exact syzygylaw02_shown.mono _
      | exact syzygyref02_Add.mono _ _ _
      | exact syzygyref02_Cmp.mono _ _ _
      | exact syzygyref02_Mul.mono _ _ _
      | exact syzygyref02_Of.mono _ _
      | exact syzygyref02_Same.mono _ _ _
      | exact syzygyref02_Sub.mono _ _ _
      | exact LeO.none _
      | refine LeO.ite ?_ ?_
      | refine LeO.bind ?_ (fun _ => ?_)
theorem syzygylaw02_NatTells.mono : ∀ a0 a1 a2 k, LeO (syzygylaw02_NatTells.f k a0 a1 a2) (syzygylaw02_NatTells.f (k + 1) a0 a1 a2) := by
  intro a0 a1 a2 k
  have ih0 := syzygylaw02_NatTells.mono_l k
  unfold syzygylaw02_NatTells.f
  repeat' first
      | (with_reducible exact ih0 _ _ _ _)
      | (with_reducible exact nat_Add.mono _ _ _)
      | (with_reducible exact nat_Cmp.mono _ _ _)
      | (with_reducible exact nat_Mul.mono _ _ _)
      | (with_reducible exact nat_Sub.mono _ _ _)
      | (with_reducible exact syzygylaw02_shown.mono _)
      | (with_reducible exact syzygyref02_Add.mono _ _ _)
      | (with_reducible exact syzygyref02_Cmp.mono _ _ _)
      | (with_reducible exact syzygyref02_Mul.mono _ _ _)
      | (with_reducible exact syzygyref02_Of.mono _ _)
      | (with_reducible exact syzygyref02_Same.mono _ _ _)
      | (with_reducible exact syzygyref02_Sub.mono _ _ _)
      | (with_reducible exact LeO.refl _)
      | (with_reducible exact LeO.none _)
      | (with_reducible refine LeO.ite ?_ ?_)
      | (with_reducible refine LeO.bind ?_ (fun _ => ?_))
      | exact ih0 _ _ _ _
      | exact nat_Add.mono _ _ _
      | exact nat_Cmp.mono _ _ _
      | exact nat_Mul.mono _ _ _
      | exact nat_Sub.mono _ _ _
      | exact syzygylaw02_shown.mono _
      | exact syzygyref02_Add.mono _ _ _
      | exact syzygyref02_Cmp.mono _ _ _
      | exact syzygyref02_Mul.mono _ _ _
      | exact syzygyref02_Of.mono _ _
      | exact syzygyref02_Same.mono _ _ _
      | exact syzygyref02_Sub.mono _ _ _
      | exact LeO.none _
      | refine LeO.ite ?_ ?_
      | refine LeO.bind ?_ (fun _ => ?_)
set_option maxHeartbeats 8000000 in
set_option maxRecDepth 100000 in
theorem syzygylaw02_NatTells.calls (k : Nat) (A0 : Option Addr) (c0 : Nat) (l0 : List Int) (A1 : Option Addr) (c1 : Nat) (l1 : List Int) (a2 : Int) (w : World) (hr0 : Kd.C (Kd.int .u64) w A0 l0.length l0) (hc0 : l0.length ≤ c0) (hr1 : Kd.C (Kd.int .u64) w A1 l1.length l1) (hc1 : l1.length ≤ c1) (h : syzygylaw02_NatTells.f k l0 l1 a2 = some true) :
    Calls Try.prog 14 #[.slice A0 l0.length c0, .slice A1 l1.length c1, .int .u64 a2] w fun e w' => e = .returned (.bool true) ∧ Below w.heap.size w w' := by
  have HR0 := Aside0.mk hr0
  have HC0 := Aside0.mk hc0
  clear hr0 hc0
  have HR1 := Aside0.mk hr1
  have HC1 := Aside0.mk hc1
  clear hr1 hc1
  have HB := Aside0.mk (Below.refl w.heap.size w)
  have H : (if (l0.length : Int) > 20 then (syzygylaw02_NatTells.j0 k l0 l1 a2 true) else (if (l1.length : Int) > 20 then (syzygylaw02_NatTells.j0 k l0 l1 a2 true) else ((syzygylaw02_shown.f k).bind fun t326 => (syzygylaw02_NatTells.j0 k l0 l1 a2 (!t326))))) = some true := h
  clear h
  have HC4 := Aside0.mk H
  clear H
  go_enter Try.func14, Try.ntmps14
  go_upto_region 1 with (fail)
  go_cut [31] (fun v31 wc => ∃ (kq : Nat) (x31_3 : Bool), v31 = .bool x31_3 ∧ Aside0 (syzygylaw02_NatTells.j0 kq l0 l1 a2 x31_3 = some true) ∧ Aside0 (kq ≤ k) ∧ Aside0 (Below w.heap.size w wc))
  case first =>
    have H := HC4.out
    clear HC4
    by_cases c5 : (l0.length : Int) > 20
    · rw [if_pos c5] at H
      have c5b0 : decide (20 < (l0.length : Int)) = true := decide_eq_true c5
      have c5b1 : decide (20 < l0.length) = true := decide_eq_true (by omega)
      clear c5
      (first | rw [c5b0] | (simp only [i64_w, i32_w]; rw [c5b0]) | skip)
      have H' := Aside0.mk H
      clear H
      go_wp2
      go_meet
      case rel => exact ⟨_, (true), (by first | rfl | (simp; done) | (simp [*]; done)), H', ⟨by first | omega | exact Nat.le_refl _⟩, ⟨by repeat (first | (with_reducible first | exact HB.out | apply below_alloc | apply pw_below_drewN | apply below_drew1) | exact HB.out)⟩⟩
    · rw [if_neg c5] at H
      have c5b0 : decide (20 < (l0.length : Int)) = false := decide_eq_false c5
      have c5b1 : decide (20 < l0.length) = false := decide_eq_false (by omega)
      clear c5
      (first | rw [c5b0] | (simp only [i64_w, i32_w]; rw [c5b0]) | skip)
      by_cases c6 : (l1.length : Int) > 20
      · rw [if_pos c6] at H
        have c6b0 : decide (20 < (l1.length : Int)) = true := decide_eq_true c6
        have c6b1 : decide (20 < l1.length) = true := decide_eq_true (by omega)
        clear c6
        have H' := Aside0.mk H
        clear H
        go_wp2
        go_meet
        case rel => exact ⟨_, (true), (by first | rfl | (simp; done) | (simp [*]; done)), H', ⟨by first | omega | exact Nat.le_refl _⟩, ⟨by repeat (first | (with_reducible first | exact HB.out | apply below_alloc | apply pw_below_drewN | apply below_drew1) | exact HB.out)⟩⟩
      · rw [if_neg c6] at H
        have c6b0 : decide (20 < (l1.length : Int)) = false := decide_eq_false c6
        have c6b1 : decide (20 < l1.length) = false := decide_eq_false (by omega)
        clear c6
        replace H := Option.bind_eq_some_iff.mp H
        obtain ⟨t326, A70, H⟩ := H
        replace H : (syzygylaw02_NatTells.j0 k l0 l1 a2 (!t326)) = some true := H
        have A7 := Aside0.mk A70
        clear A70
        have H' := Aside0.mk H
        clear H
        go_wp2_with (first | ((with_reducible refine gate_dst (N := 29) rfl ?_); (try (refine gate_guard (by rfl) ?_; dsimp only)); refine gate_guard (by first | rfl | kernel_rfl) ?_; dsimp only; (with_reducible refine gate_callee (f := 21) rfl ?_); refine goesL_ (some 29) rfl rfl Try.func21 (by kernel_rfl) rfl #[] rfl (by (try simp only [List.map_toArray, List.map_cons, List.map_nil]); first | done | rfl | (simp only [List.length_drop, List.length_take]; rfl)) ?_; (with_reducible refine (syzygylaw02_shown.calls k  t326 _ A7.out).mono ?_); rintro e w8 ⟨rfl, hb⟩; refine ⟨_, rfl, ?_⟩; have n0_ := Aside0.mk (below_step (by repeat (first | (with_reducible first | exact HB.out | apply below_alloc | apply pw_below_drewN | apply below_drew1) | exact HB.out)) hb); clear HB; have HB := n0_; clear n0_; (try clear hb); (try clear hb2); (try clear hk); (try clear hi)))
        go_meet
        case rel => exact ⟨_, (!t326), (by first | rfl | (simp; done) | (simp [*]; done)), H', ⟨by first | omega | exact Nat.le_refl _⟩, ⟨by repeat (first | (with_reducible first | exact HB.out | apply below_alloc | apply pw_below_drewN | apply below_drew1) | exact HB.out)⟩⟩
  case rest =>
    clear HC4
    try clear c1
    try clear c2
    try clear p2
    try clear c5
    try clear c5b0
    try clear c5b1
    try clear c6
    try clear c6b0
    try clear c6b1
    obtain ⟨kq, x31_3, rfl, HA, HJ3, HB⟩ := hcut
    cases kq with
    | zero => exact absurd HA.out (by simp [syzygylaw02_NatTells.j0])
    | succ kj3 =>
      have H := HA.out
      clear HA
      simp only [syzygylaw02_NatTells.j0] at H
      by_cases c9 : x31_3 = true
      · subst c9
        have H1 : ((syzygylaw02_shown.f kj3).bind fun t327 => (some t327)) = some true := by rw [if_pos rfl] at H; exact H
        clear H
        have H := H1
        clear H1
        replace H := Option.bind_eq_some_iff.mp H
        obtain ⟨t327, A100, H⟩ := H
        replace H : (some t327) = some true := H
        have A10 := Aside0.mk A100
        clear A100
        have HRT_ := Aside0.mk (Option.some.inj H)
        clear H
        go_wp2_with (first | ((with_reducible refine gate_callee (f := 21) rfl ?_); refine goesL_ (some 32) rfl rfl Try.func21 (by kernel_rfl) rfl #[] rfl (by (try simp only [List.map_toArray, List.map_cons, List.map_nil]); first | done | rfl | (simp only [List.length_drop, List.length_take]; rfl)) ?_; (with_reducible refine (syzygylaw02_shown.calls kj3  t327 _ A10.out).mono ?_); rintro e w11 ⟨rfl, hb⟩; refine ⟨_, rfl, ?_⟩; have n0_ := Aside0.mk (below_step (by repeat (first | (with_reducible first | exact HB.out | apply below_alloc | apply pw_below_drewN | apply below_drew1) | exact HB.out)) hb); clear HB; have HB := n0_; clear n0_; (try clear hb); (try clear hb2); (try clear hk); (try clear hi)))
        go_ret
        exact ⟨by first | rfl | (rw [HRT_.out]; rfl) | (simp only [HRT_.out]; done) | exact of_decide_eq_true HRT_.out | (have h_ := HRT_.out; simp at h_ ⊢; exact h_) | (have h_ := HRT_.out; simp at h_ ⊢; omega) | (have h_ := HRT_.out; simp [h_]; done) | (simp [errW_none, errW_some] <;> rfl) | (simp [*, errW_none, errW_some] <;> rfl), by repeat (first | (with_reducible first | exact HB.out | apply below_alloc | apply pw_below_drewN | apply below_drew1) | exact HB.out)⟩
      · replace c9 := Bool.eq_false_iff.mpr c9
        subst c9
        have H1 : ((nat_Add.f kj3 l0 l1).bind fun bt328 => ((syzygyref02_Add.f kj3 l0 l1).bind fun bt332 => ((nat_Sub.f kj3 l0 l1).bind fun bt336 => ((syzygyref02_Sub.f kj3 l0 l1).bind fun bt340 => ((nat_Mul.f kj3 l0 l1).bind fun bt344 => ((syzygyref02_Mul.f kj3 l0 l1).bind fun bt348 => ((syzygyref02_Same.f kj3 bt328.1 bt332.1).bind fun t352 => (if t352 = true then (if bt328.2 = bt332.2 then ((syzygyref02_Same.f kj3 bt336.1 bt340.1).bind fun t353 => (if t353 = true then (if bt336.2 = bt340.2 then ((syzygyref02_Same.f kj3 bt344.1 bt348.1).bind fun t354 => (if t354 = true then (if bt344.2 = bt348.2 then ((nat_May.f l0).bind fun t355 => ((syzygyref02_May.f l0).bind fun t356 => (if (t355 == t356) = true then ((nat_Cmp.f kj3 l0 l1).bind fun t357 => ((syzygyref02_Cmp.f kj3 l0 l1).bind fun t358 => (if t357 = t358 then ((nat_Of.f a2).bind fun t359 => ((syzygyref02_Of.f kj3 a2).bind fun t362 => ((syzygyref02_Same.f kj3 t359 t362).bind fun t365 => (some t365)))) else (some false)))) else (some false)))) else (some false)) else (some false))) else (some false)) else (some false))) else (some false)) else (some false))))))))) = some true := by rw [if_neg (show ¬ (false = true) by decide)] at H; exact H
        clear H
        have H := H1
        clear H1
        replace H := Option.bind_eq_some_iff.mp H
        obtain ⟨⟨t328, t331⟩, A120, H⟩ := H
        replace H : ((syzygyref02_Add.f kj3 l0 l1).bind fun bt332 => ((nat_Sub.f kj3 l0 l1).bind fun bt336 => ((syzygyref02_Sub.f kj3 l0 l1).bind fun bt340 => ((nat_Mul.f kj3 l0 l1).bind fun bt344 => ((syzygyref02_Mul.f kj3 l0 l1).bind fun bt348 => ((syzygyref02_Same.f kj3 t328 bt332.1).bind fun t352 => (if t352 = true then (if t331 = bt332.2 then ((syzygyref02_Same.f kj3 bt336.1 bt340.1).bind fun t353 => (if t353 = true then (if bt336.2 = bt340.2 then ((syzygyref02_Same.f kj3 bt344.1 bt348.1).bind fun t354 => (if t354 = true then (if bt344.2 = bt348.2 then ((nat_May.f l0).bind fun t355 => ((syzygyref02_May.f l0).bind fun t356 => (if (t355 == t356) = true then ((nat_Cmp.f kj3 l0 l1).bind fun t357 => ((syzygyref02_Cmp.f kj3 l0 l1).bind fun t358 => (if t357 = t358 then ((nat_Of.f a2).bind fun t359 => ((syzygyref02_Of.f kj3 a2).bind fun t362 => ((syzygyref02_Same.f kj3 t359 t362).bind fun t365 => (some t365)))) else (some false)))) else (some false)))) else (some false)) else (some false))) else (some false)) else (some false))) else (some false)) else (some false)))))))) = some true := H
        have A12 := Aside0.mk A120
        clear A120
        replace H := Option.bind_eq_some_iff.mp H
        obtain ⟨⟨t332, t335⟩, A130, H⟩ := H
        replace H : ((nat_Sub.f kj3 l0 l1).bind fun bt336 => ((syzygyref02_Sub.f kj3 l0 l1).bind fun bt340 => ((nat_Mul.f kj3 l0 l1).bind fun bt344 => ((syzygyref02_Mul.f kj3 l0 l1).bind fun bt348 => ((syzygyref02_Same.f kj3 t328 t332).bind fun t352 => (if t352 = true then (if t331 = t335 then ((syzygyref02_Same.f kj3 bt336.1 bt340.1).bind fun t353 => (if t353 = true then (if bt336.2 = bt340.2 then ((syzygyref02_Same.f kj3 bt344.1 bt348.1).bind fun t354 => (if t354 = true then (if bt344.2 = bt348.2 then ((nat_May.f l0).bind fun t355 => ((syzygyref02_May.f l0).bind fun t356 => (if (t355 == t356) = true then ((nat_Cmp.f kj3 l0 l1).bind fun t357 => ((syzygyref02_Cmp.f kj3 l0 l1).bind fun t358 => (if t357 = t358 then ((nat_Of.f a2).bind fun t359 => ((syzygyref02_Of.f kj3 a2).bind fun t362 => ((syzygyref02_Same.f kj3 t359 t362).bind fun t365 => (some t365)))) else (some false)))) else (some false)))) else (some false)) else (some false))) else (some false)) else (some false))) else (some false)) else (some false))))))) = some true := H
        have A13 := Aside0.mk A130
        clear A130
        replace H := Option.bind_eq_some_iff.mp H
        obtain ⟨⟨t336, t337⟩, A140, H⟩ := H
        replace H : ((syzygyref02_Sub.f kj3 l0 l1).bind fun bt340 => ((nat_Mul.f kj3 l0 l1).bind fun bt344 => ((syzygyref02_Mul.f kj3 l0 l1).bind fun bt348 => ((syzygyref02_Same.f kj3 t328 t332).bind fun t352 => (if t352 = true then (if t331 = t335 then ((syzygyref02_Same.f kj3 t336 bt340.1).bind fun t353 => (if t353 = true then (if t337 = bt340.2 then ((syzygyref02_Same.f kj3 bt344.1 bt348.1).bind fun t354 => (if t354 = true then (if bt344.2 = bt348.2 then ((nat_May.f l0).bind fun t355 => ((syzygyref02_May.f l0).bind fun t356 => (if (t355 == t356) = true then ((nat_Cmp.f kj3 l0 l1).bind fun t357 => ((syzygyref02_Cmp.f kj3 l0 l1).bind fun t358 => (if t357 = t358 then ((nat_Of.f a2).bind fun t359 => ((syzygyref02_Of.f kj3 a2).bind fun t362 => ((syzygyref02_Same.f kj3 t359 t362).bind fun t365 => (some t365)))) else (some false)))) else (some false)))) else (some false)) else (some false))) else (some false)) else (some false))) else (some false)) else (some false)))))) = some true := H
        have A14 := Aside0.mk A140
        clear A140
        replace H := Option.bind_eq_some_iff.mp H
        obtain ⟨⟨t340, t341⟩, A150, H⟩ := H
        replace H : ((nat_Mul.f kj3 l0 l1).bind fun bt344 => ((syzygyref02_Mul.f kj3 l0 l1).bind fun bt348 => ((syzygyref02_Same.f kj3 t328 t332).bind fun t352 => (if t352 = true then (if t331 = t335 then ((syzygyref02_Same.f kj3 t336 t340).bind fun t353 => (if t353 = true then (if t337 = t341 then ((syzygyref02_Same.f kj3 bt344.1 bt348.1).bind fun t354 => (if t354 = true then (if bt344.2 = bt348.2 then ((nat_May.f l0).bind fun t355 => ((syzygyref02_May.f l0).bind fun t356 => (if (t355 == t356) = true then ((nat_Cmp.f kj3 l0 l1).bind fun t357 => ((syzygyref02_Cmp.f kj3 l0 l1).bind fun t358 => (if t357 = t358 then ((nat_Of.f a2).bind fun t359 => ((syzygyref02_Of.f kj3 a2).bind fun t362 => ((syzygyref02_Same.f kj3 t359 t362).bind fun t365 => (some t365)))) else (some false)))) else (some false)))) else (some false)) else (some false))) else (some false)) else (some false))) else (some false)) else (some false))))) = some true := H
        have A15 := Aside0.mk A150
        clear A150
        replace H := Option.bind_eq_some_iff.mp H
        obtain ⟨⟨t344, t345⟩, A160, H⟩ := H
        replace H : ((syzygyref02_Mul.f kj3 l0 l1).bind fun bt348 => ((syzygyref02_Same.f kj3 t328 t332).bind fun t352 => (if t352 = true then (if t331 = t335 then ((syzygyref02_Same.f kj3 t336 t340).bind fun t353 => (if t353 = true then (if t337 = t341 then ((syzygyref02_Same.f kj3 t344 bt348.1).bind fun t354 => (if t354 = true then (if t345 = bt348.2 then ((nat_May.f l0).bind fun t355 => ((syzygyref02_May.f l0).bind fun t356 => (if (t355 == t356) = true then ((nat_Cmp.f kj3 l0 l1).bind fun t357 => ((syzygyref02_Cmp.f kj3 l0 l1).bind fun t358 => (if t357 = t358 then ((nat_Of.f a2).bind fun t359 => ((syzygyref02_Of.f kj3 a2).bind fun t362 => ((syzygyref02_Same.f kj3 t359 t362).bind fun t365 => (some t365)))) else (some false)))) else (some false)))) else (some false)) else (some false))) else (some false)) else (some false))) else (some false)) else (some false)))) = some true := H
        have A16 := Aside0.mk A160
        clear A160
        replace H := Option.bind_eq_some_iff.mp H
        obtain ⟨⟨t348, t351⟩, A170, H⟩ := H
        replace H : ((syzygyref02_Same.f kj3 t328 t332).bind fun t352 => (if t352 = true then (if t331 = t335 then ((syzygyref02_Same.f kj3 t336 t340).bind fun t353 => (if t353 = true then (if t337 = t341 then ((syzygyref02_Same.f kj3 t344 t348).bind fun t354 => (if t354 = true then (if t345 = t351 then ((nat_May.f l0).bind fun t355 => ((syzygyref02_May.f l0).bind fun t356 => (if (t355 == t356) = true then ((nat_Cmp.f kj3 l0 l1).bind fun t357 => ((syzygyref02_Cmp.f kj3 l0 l1).bind fun t358 => (if t357 = t358 then ((nat_Of.f a2).bind fun t359 => ((syzygyref02_Of.f kj3 a2).bind fun t362 => ((syzygyref02_Same.f kj3 t359 t362).bind fun t365 => (some t365)))) else (some false)))) else (some false)))) else (some false)) else (some false))) else (some false)) else (some false))) else (some false)) else (some false))) = some true := H
        have A17 := Aside0.mk A170
        clear A170
        replace H := Option.bind_eq_some_iff.mp H
        obtain ⟨t352, A180, H⟩ := H
        replace H : (if t352 = true then (if t331 = t335 then ((syzygyref02_Same.f kj3 t336 t340).bind fun t353 => (if t353 = true then (if t337 = t341 then ((syzygyref02_Same.f kj3 t344 t348).bind fun t354 => (if t354 = true then (if t345 = t351 then ((nat_May.f l0).bind fun t355 => ((syzygyref02_May.f l0).bind fun t356 => (if (t355 == t356) = true then ((nat_Cmp.f kj3 l0 l1).bind fun t357 => ((syzygyref02_Cmp.f kj3 l0 l1).bind fun t358 => (if t357 = t358 then ((nat_Of.f a2).bind fun t359 => ((syzygyref02_Of.f kj3 a2).bind fun t362 => ((syzygyref02_Same.f kj3 t359 t362).bind fun t365 => (some t365)))) else (some false)))) else (some false)))) else (some false)) else (some false))) else (some false)) else (some false))) else (some false)) else (some false)) = some true := H
        have A18 := Aside0.mk A180
        clear A180
        by_cases c19 : t352 = true
        · subst c19
          have H1 : (if t331 = t335 then ((syzygyref02_Same.f kj3 t336 t340).bind fun t353 => (if t353 = true then (if t337 = t341 then ((syzygyref02_Same.f kj3 t344 t348).bind fun t354 => (if t354 = true then (if t345 = t351 then ((nat_May.f l0).bind fun t355 => ((syzygyref02_May.f l0).bind fun t356 => (if (t355 == t356) = true then ((nat_Cmp.f kj3 l0 l1).bind fun t357 => ((syzygyref02_Cmp.f kj3 l0 l1).bind fun t358 => (if t357 = t358 then ((nat_Of.f a2).bind fun t359 => ((syzygyref02_Of.f kj3 a2).bind fun t362 => ((syzygyref02_Same.f kj3 t359 t362).bind fun t365 => (some t365)))) else (some false)))) else (some false)))) else (some false)) else (some false))) else (some false)) else (some false))) else (some false)) = some true := by rw [if_pos rfl] at H; exact H
          clear H
          have H := H1
          clear H1
          by_cases c20 : t331 = t335
          · rw [if_pos c20] at H
            have c20b0 : (t331 == t335) = true := beq_iff_eq.mpr c20
            have c20b1 : (t331 != t335) = false := bne_eq_false_iff_eq.mpr c20
            clear c20
            replace H := Option.bind_eq_some_iff.mp H
            obtain ⟨t353, A210, H⟩ := H
            replace H : (if t353 = true then (if t337 = t341 then ((syzygyref02_Same.f kj3 t344 t348).bind fun t354 => (if t354 = true then (if t345 = t351 then ((nat_May.f l0).bind fun t355 => ((syzygyref02_May.f l0).bind fun t356 => (if (t355 == t356) = true then ((nat_Cmp.f kj3 l0 l1).bind fun t357 => ((syzygyref02_Cmp.f kj3 l0 l1).bind fun t358 => (if t357 = t358 then ((nat_Of.f a2).bind fun t359 => ((syzygyref02_Of.f kj3 a2).bind fun t362 => ((syzygyref02_Same.f kj3 t359 t362).bind fun t365 => (some t365)))) else (some false)))) else (some false)))) else (some false)) else (some false))) else (some false)) else (some false)) = some true := H
            have A21 := Aside0.mk A210
            clear A210
            by_cases c22 : t353 = true
            · subst c22
              have H1 : (if t337 = t341 then ((syzygyref02_Same.f kj3 t344 t348).bind fun t354 => (if t354 = true then (if t345 = t351 then ((nat_May.f l0).bind fun t355 => ((syzygyref02_May.f l0).bind fun t356 => (if (t355 == t356) = true then ((nat_Cmp.f kj3 l0 l1).bind fun t357 => ((syzygyref02_Cmp.f kj3 l0 l1).bind fun t358 => (if t357 = t358 then ((nat_Of.f a2).bind fun t359 => ((syzygyref02_Of.f kj3 a2).bind fun t362 => ((syzygyref02_Same.f kj3 t359 t362).bind fun t365 => (some t365)))) else (some false)))) else (some false)))) else (some false)) else (some false))) else (some false)) = some true := by rw [if_pos rfl] at H; exact H
              clear H
              have H := H1
              clear H1
              by_cases c23 : t337 = t341
              · rw [if_pos c23] at H
                have c23b0 : (t337 == t341) = true := beq_iff_eq.mpr c23
                have c23b1 : (t337 != t341) = false := bne_eq_false_iff_eq.mpr c23
                clear c23
                replace H := Option.bind_eq_some_iff.mp H
                obtain ⟨t354, A240, H⟩ := H
                replace H : (if t354 = true then (if t345 = t351 then ((nat_May.f l0).bind fun t355 => ((syzygyref02_May.f l0).bind fun t356 => (if (t355 == t356) = true then ((nat_Cmp.f kj3 l0 l1).bind fun t357 => ((syzygyref02_Cmp.f kj3 l0 l1).bind fun t358 => (if t357 = t358 then ((nat_Of.f a2).bind fun t359 => ((syzygyref02_Of.f kj3 a2).bind fun t362 => ((syzygyref02_Same.f kj3 t359 t362).bind fun t365 => (some t365)))) else (some false)))) else (some false)))) else (some false)) else (some false)) = some true := H
                have A24 := Aside0.mk A240
                clear A240
                by_cases c25 : t354 = true
                · subst c25
                  have H1 : (if t345 = t351 then ((nat_May.f l0).bind fun t355 => ((syzygyref02_May.f l0).bind fun t356 => (if (t355 == t356) = true then ((nat_Cmp.f kj3 l0 l1).bind fun t357 => ((syzygyref02_Cmp.f kj3 l0 l1).bind fun t358 => (if t357 = t358 then ((nat_Of.f a2).bind fun t359 => ((syzygyref02_Of.f kj3 a2).bind fun t362 => ((syzygyref02_Same.f kj3 t359 t362).bind fun t365 => (some t365)))) else (some false)))) else (some false)))) else (some false)) = some true := by rw [if_pos rfl] at H; exact H
                  clear H
                  have H := H1
                  clear H1
                  by_cases c26 : t345 = t351
                  · rw [if_pos c26] at H
                    have c26b0 : (t345 == t351) = true := beq_iff_eq.mpr c26
                    have c26b1 : (t345 != t351) = false := bne_eq_false_iff_eq.mpr c26
                    clear c26
                    replace H := Option.bind_eq_some_iff.mp H
                    obtain ⟨t355, A270, H⟩ := H
                    replace H : ((syzygyref02_May.f l0).bind fun t356 => (if (t355 == t356) = true then ((nat_Cmp.f kj3 l0 l1).bind fun t357 => ((syzygyref02_Cmp.f kj3 l0 l1).bind fun t358 => (if t357 = t358 then ((nat_Of.f a2).bind fun t359 => ((syzygyref02_Of.f kj3 a2).bind fun t362 => ((syzygyref02_Same.f kj3 t359 t362).bind fun t365 => (some t365)))) else (some false)))) else (some false))) = some true := H
                    have A27 := Aside0.mk A270
                    clear A270
                    replace H := Option.bind_eq_some_iff.mp H
                    obtain ⟨t356, A280, H⟩ := H
                    replace H : (if (t355 == t356) = true then ((nat_Cmp.f kj3 l0 l1).bind fun t357 => ((syzygyref02_Cmp.f kj3 l0 l1).bind fun t358 => (if t357 = t358 then ((nat_Of.f a2).bind fun t359 => ((syzygyref02_Of.f kj3 a2).bind fun t362 => ((syzygyref02_Same.f kj3 t359 t362).bind fun t365 => (some t365)))) else (some false)))) else (some false)) = some true := H
                    have A28 := Aside0.mk A280
                    clear A280
                    by_cases c29 : (t355 == t356) = true
                    · rw [if_pos c29] at H
                      have c29b0 : (t355 == t356) = true := c29
                      (try (have c29b1 : decide (t355 = t356) = true := by simpa using c29))
                      (try (have c29b2 : (t355 == t356) = true := by simpa using c29))
                      clear c29
                      replace H := Option.bind_eq_some_iff.mp H
                      obtain ⟨t357, A300, H⟩ := H
                      replace H : ((syzygyref02_Cmp.f kj3 l0 l1).bind fun t358 => (if t357 = t358 then ((nat_Of.f a2).bind fun t359 => ((syzygyref02_Of.f kj3 a2).bind fun t362 => ((syzygyref02_Same.f kj3 t359 t362).bind fun t365 => (some t365)))) else (some false))) = some true := H
                      have A30 := Aside0.mk A300
                      clear A300
                      replace H := Option.bind_eq_some_iff.mp H
                      obtain ⟨t358, A310, H⟩ := H
                      replace H : (if t357 = t358 then ((nat_Of.f a2).bind fun t359 => ((syzygyref02_Of.f kj3 a2).bind fun t362 => ((syzygyref02_Same.f kj3 t359 t362).bind fun t365 => (some t365)))) else (some false)) = some true := H
                      have A31 := Aside0.mk A310
                      clear A310
                      by_cases c32 : t357 = t358
                      · rw [if_pos c32] at H
                        have c32b0 : (t357 == t358) = true := beq_iff_eq.mpr c32
                        have c32b1 : (t357 != t358) = false := bne_eq_false_iff_eq.mpr c32
                        clear c32
                        replace H := Option.bind_eq_some_iff.mp H
                        obtain ⟨t359, A330, H⟩ := H
                        replace H : ((syzygyref02_Of.f kj3 a2).bind fun t362 => ((syzygyref02_Same.f kj3 t359 t362).bind fun t365 => (some t365))) = some true := H
                        have A33 := Aside0.mk A330
                        clear A330
                        replace H := Option.bind_eq_some_iff.mp H
                        obtain ⟨t362, A340, H⟩ := H
                        replace H : ((syzygyref02_Same.f kj3 t359 t362).bind fun t365 => (some t365)) = some true := H
                        have A34 := Aside0.mk A340
                        clear A340
                        replace H := Option.bind_eq_some_iff.mp H
                        obtain ⟨t365, A350, H⟩ := H
                        replace H : (some t365) = some true := H
                        have A35 := Aside0.mk A350
                        clear A350
                        have HRT_ := Aside0.mk (Option.some.inj H)
                        clear H
                        go_wp2_with (first | ((with_reducible refine gate_callee (f := 24) rfl ?_); refine goesL_ (some 36) rfl rfl Try.func24 (by kernel_rfl) rfl #[.slice A0 l0.length c0, .slice A1 l1.length c1] rfl (by (try simp only [List.map_toArray, List.map_cons, List.map_nil]); first | done | rfl | (simp only [List.length_drop, List.length_take]; rfl)) ?_; (with_reducible refine (nat_Add.calls kj3 (fun k_ => k_ < w.heap.size) _ _ l0 _ _ l1 t328 t331 _ ?side1 ?side2 ?side3 A12.out).mono ?_); (case side1 => exact Kd.V_mk HC0.out (Kd.F_below (Kd.C_F (Kd.heap_int .u64) HR0.out) (by repeat (first | (with_reducible first | exact HB.out | apply below_alloc | apply pw_below_drewN | apply below_drew1) | exact HB.out)))); (case side2 => repeat (first | exact (Kd.C_below HR1.out HB.out) | (with_reducible refine Kd.C_alloc ?_ _) | (with_reducible refine Kd.C_drewN ?_ _) | (with_reducible refine Kd.C_drew ?_))); (case side3 => exact HC1.out); rintro e w36 ⟨v329, rfl, ho0, hb⟩; refine ⟨_, rfl, ?_⟩; have n0_ := Aside0.mk (Kd.V_lower (Kd.V_mono (ok' := fun k_ => True) ho0 (fun k_ hk_ => trivial)) (below_size (by repeat (first | (with_reducible first | exact HB.out | apply below_alloc | apply pw_below_drewN | apply below_drew1) | exact HB.out)))); have n1_ := Aside0.mk (below_step (by repeat (first | (with_reducible first | exact HB.out | apply below_alloc | apply pw_below_drewN | apply below_drew1) | exact HB.out)) hb); clear HB; have HO330 := n0_; have HB := n1_; clear n0_ n1_; (try clear hb); (try clear hb2); (try clear hk); (try clear hi); (try clear ho0)) | ((with_reducible refine gate_callee (f := 44) rfl ?_); refine goesL_ (some 42) rfl rfl Try.func44 (by kernel_rfl) rfl #[.slice A0 l0.length c0, .slice A1 l1.length c1] rfl (by (try simp only [List.map_toArray, List.map_cons, List.map_nil]); first | done | rfl | (simp only [List.length_drop, List.length_take]; rfl)) ?_; (with_reducible refine (syzygyref02_Add.calls kj3 _ _ l0 _ _ l1 t332 t335 _ ?side1 ?side2 ?side3 ?side4 A13.out).mono ?_); (case side1 => repeat (first | exact (Kd.C_below HR0.out HB.out) | (with_reducible refine Kd.C_alloc ?_ _) | (with_reducible refine Kd.C_drewN ?_ _) | (with_reducible refine Kd.C_drew ?_))); (case side2 => exact HC0.out); (case side3 => repeat (first | exact (Kd.C_below HR1.out HB.out) | (with_reducible refine Kd.C_alloc ?_ _) | (with_reducible refine Kd.C_drewN ?_ _) | (with_reducible refine Kd.C_drew ?_))); (case side4 => exact HC1.out); rintro e w37 ⟨v333, rfl, ho0, hb⟩; refine ⟨_, rfl, ?_⟩; have n0_ := Aside0.mk (Kd.V_below (by (with_reducible repeat (first | apply Kd.V_alloc | apply Kd.V_drewN | apply Kd.V_drew)); exact HO330.out) hb); have n1_ := Aside0.mk (Kd.V_lower (Kd.V_mono (ok' := fun k_ => True) ho0 (fun k_ hk_ => trivial)) (below_size (by repeat (first | (with_reducible first | exact HB.out | apply below_alloc | apply pw_below_drewN | apply below_drew1) | exact HB.out)))); have n2_ := Aside0.mk (below_step (by repeat (first | (with_reducible first | exact HB.out | apply below_alloc | apply pw_below_drewN | apply below_drew1) | exact HB.out)) hb); clear HO330; clear HB; have HO330 := n0_; have HO334 := n1_; have HB := n2_; clear n0_ n1_ n2_; (try clear hb); (try clear hb2); (try clear hk); (try clear hi); (try clear ho0)) | ((with_reducible refine gate_callee (f := 28) rfl ?_); refine goesL_ (some 48) rfl rfl Try.func28 (by kernel_rfl) rfl #[.slice A0 l0.length c0, .slice A1 l1.length c1] rfl (by (try simp only [List.map_toArray, List.map_cons, List.map_nil]); first | done | rfl | (simp only [List.length_drop, List.length_take]; rfl)) ?_; (with_reducible refine (nat_Sub.calls kj3 _ _ l0 _ _ l1 t336 t337 _ ?side1 ?side2 ?side3 ?side4 A14.out).mono ?_); (case side1 => repeat (first | exact (Kd.C_below HR0.out HB.out) | (with_reducible refine Kd.C_alloc ?_ _) | (with_reducible refine Kd.C_drewN ?_ _) | (with_reducible refine Kd.C_drew ?_))); (case side2 => exact HC0.out); (case side3 => repeat (first | exact (Kd.C_below HR1.out HB.out) | (with_reducible refine Kd.C_alloc ?_ _) | (with_reducible refine Kd.C_drewN ?_ _) | (with_reducible refine Kd.C_drew ?_))); (case side4 => exact HC1.out); rintro e w38 ⟨v338, rfl, ho0, hb⟩; refine ⟨_, rfl, ?_⟩; have n0_ := Aside0.mk (Kd.V_elder' (by (with_reducible repeat (first | apply Kd.V_alloc | apply Kd.V_drewN | apply Kd.V_drew)); exact HO330.out) (Kd.R_base ho0) hb); have n1_ := Aside0.mk (Kd.V_elder' (by (with_reducible repeat (first | apply Kd.V_alloc | apply Kd.V_drewN | apply Kd.V_drew)); exact HO334.out) (Kd.R_base ho0) hb); have n2_ := Aside0.mk (Kd.R_lower ho0 (below_size (by repeat (first | (with_reducible first | exact HB.out | apply below_alloc | apply pw_below_drewN | apply below_drew1) | exact HB.out)))); have n3_ := Aside0.mk (below_step (by repeat (first | (with_reducible first | exact HB.out | apply below_alloc | apply pw_below_drewN | apply below_drew1) | exact HB.out)) hb); clear HO330; clear HO334; clear HB; have HO330 := n0_; have HO334 := n1_; have HO339 := n2_; have HB := n3_; clear n0_ n1_ n2_ n3_; (try clear hb); (try clear hb2); (try clear hk); (try clear hi); (try clear ho0)) | ((with_reducible refine gate_callee (f := 45) rfl ?_); refine goesL_ (some 54) rfl rfl Try.func45 (by kernel_rfl) rfl #[.slice A0 l0.length c0, .slice A1 l1.length c1] rfl (by (try simp only [List.map_toArray, List.map_cons, List.map_nil]); first | done | rfl | (simp only [List.length_drop, List.length_take]; rfl)) ?_; (with_reducible refine (syzygyref02_Sub.calls kj3 _ _ l0 _ _ l1 t340 t341 _ ?side1 ?side2 ?side3 ?side4 A15.out).mono ?_); (case side1 => repeat (first | exact (Kd.C_below HR0.out HB.out) | (with_reducible refine Kd.C_alloc ?_ _) | (with_reducible refine Kd.C_drewN ?_ _) | (with_reducible refine Kd.C_drew ?_))); (case side2 => exact HC0.out); (case side3 => repeat (first | exact (Kd.C_below HR1.out HB.out) | (with_reducible refine Kd.C_alloc ?_ _) | (with_reducible refine Kd.C_drewN ?_ _) | (with_reducible refine Kd.C_drew ?_))); (case side4 => exact HC1.out); rintro e w39 ⟨v342, rfl, ho0, hb⟩; refine ⟨_, rfl, ?_⟩; have n0_ := Aside0.mk (Kd.V_elder' (by (with_reducible repeat (first | apply Kd.V_alloc | apply Kd.V_drewN | apply Kd.V_drew)); exact HO330.out) (Kd.R_base ho0) hb); have n1_ := Aside0.mk (Kd.V_elder' (by (with_reducible repeat (first | apply Kd.V_alloc | apply Kd.V_drewN | apply Kd.V_drew)); exact HO334.out) (Kd.R_base ho0) hb); have n2_ := Aside0.mk (Kd.R_elder' (by (with_reducible repeat (first | apply Kd.R_alloc | apply Kd.R_drewN | apply Kd.R_drew)); exact HO339.out) (Kd.R_base ho0) hb); have n3_ := Aside0.mk (Kd.R_lower (Kd.R_new' ho0 (Kd.R_lt (by (with_reducible repeat (first | apply Kd.R_alloc | apply Kd.R_drewN | apply Kd.R_drew)); exact HO339.out))) (below_size (by repeat (first | (with_reducible first | exact HB.out | apply below_alloc | apply pw_below_drewN | apply below_drew1) | exact HB.out)))); have n4_ := Aside0.mk (below_step (by repeat (first | (with_reducible first | exact HB.out | apply below_alloc | apply pw_below_drewN | apply below_drew1) | exact HB.out)) hb); clear HO330; clear HO334; clear HO339; clear HB; have HO330 := n0_; have HO334 := n1_; have HO339 := n2_; have HO343 := n3_; have HB := n4_; clear n0_ n1_ n2_ n3_ n4_; (try clear hb); (try clear hb2); (try clear hk); (try clear hi); (try clear ho0)) | ((with_reducible refine gate_callee (f := 23) rfl ?_); refine goesL_ (some 60) rfl rfl Try.func23 (by kernel_rfl) rfl #[.slice A0 l0.length c0, .slice A1 l1.length c1] rfl (by (try simp only [List.map_toArray, List.map_cons, List.map_nil]); first | done | rfl | (simp only [List.length_drop, List.length_take]; rfl)) ?_; (with_reducible refine (nat_Mul.calls kj3 _ _ l0 _ _ l1 t344 t345 _ ?side1 ?side2 ?side3 ?side4 A16.out).mono ?_); (case side1 => repeat (first | exact (Kd.C_below HR0.out HB.out) | (with_reducible refine Kd.C_alloc ?_ _) | (with_reducible refine Kd.C_drewN ?_ _) | (with_reducible refine Kd.C_drew ?_))); (case side2 => exact HC0.out); (case side3 => repeat (first | exact (Kd.C_below HR1.out HB.out) | (with_reducible refine Kd.C_alloc ?_ _) | (with_reducible refine Kd.C_drewN ?_ _) | (with_reducible refine Kd.C_drew ?_))); (case side4 => exact HC1.out); rintro e w40 ⟨v346, rfl, ho0, hb⟩; refine ⟨_, rfl, ?_⟩; have n0_ := Aside0.mk (Kd.V_elder' (by (with_reducible repeat (first | apply Kd.V_alloc | apply Kd.V_drewN | apply Kd.V_drew)); exact HO330.out) (Kd.R_base ho0) hb); have n1_ := Aside0.mk (Kd.V_elder' (by (with_reducible repeat (first | apply Kd.V_alloc | apply Kd.V_drewN | apply Kd.V_drew)); exact HO334.out) (Kd.R_base ho0) hb); have n2_ := Aside0.mk (Kd.R_elder' (by (with_reducible repeat (first | apply Kd.R_alloc | apply Kd.R_drewN | apply Kd.R_drew)); exact HO339.out) (Kd.R_base ho0) hb); have n3_ := Aside0.mk (Kd.R_elder' (by (with_reducible repeat (first | apply Kd.R_alloc | apply Kd.R_drewN | apply Kd.R_drew)); exact HO343.out) (Kd.R_base ho0) hb); have n4_ := Aside0.mk (Kd.R_lower (Kd.R_new' (Kd.R_new' ho0 (Kd.R_lt (by (with_reducible repeat (first | apply Kd.R_alloc | apply Kd.R_drewN | apply Kd.R_drew)); exact HO339.out))) (Kd.R_lt (by (with_reducible repeat (first | apply Kd.R_alloc | apply Kd.R_drewN | apply Kd.R_drew)); exact HO343.out))) (below_size (by repeat (first | (with_reducible first | exact HB.out | apply below_alloc | apply pw_below_drewN | apply below_drew1) | exact HB.out)))); have n5_ := Aside0.mk (below_step (by repeat (first | (with_reducible first | exact HB.out | apply below_alloc | apply pw_below_drewN | apply below_drew1) | exact HB.out)) hb); clear HO330; clear HO334; clear HO339; clear HO343; clear HB; have HO330 := n0_; have HO334 := n1_; have HO339 := n2_; have HO343 := n3_; have HO347 := n4_; have HB := n5_; clear n0_ n1_ n2_ n3_ n4_ n5_; (try clear hb); (try clear hb2); (try clear hk); (try clear hi); (try clear ho0)) | ((with_reducible refine gate_callee (f := 46) rfl ?_); refine goesL_ (some 66) rfl rfl Try.func46 (by kernel_rfl) rfl #[.slice A0 l0.length c0, .slice A1 l1.length c1] rfl (by (try simp only [List.map_toArray, List.map_cons, List.map_nil]); first | done | rfl | (simp only [List.length_drop, List.length_take]; rfl)) ?_; (with_reducible refine (syzygyref02_Mul.calls kj3 _ _ l0 _ _ l1 t348 t351 _ ?side1 ?side2 ?side3 ?side4 A17.out).mono ?_); (case side1 => repeat (first | exact (Kd.C_below HR0.out HB.out) | (with_reducible refine Kd.C_alloc ?_ _) | (with_reducible refine Kd.C_drewN ?_ _) | (with_reducible refine Kd.C_drew ?_))); (case side2 => exact HC0.out); (case side3 => repeat (first | exact (Kd.C_below HR1.out HB.out) | (with_reducible refine Kd.C_alloc ?_ _) | (with_reducible refine Kd.C_drewN ?_ _) | (with_reducible refine Kd.C_drew ?_))); (case side4 => exact HC1.out); rintro e w41 ⟨v349, rfl, ho0, hb⟩; refine ⟨_, rfl, ?_⟩; have n0_ := Aside0.mk (Kd.V_below (by (with_reducible repeat (first | apply Kd.V_alloc | apply Kd.V_drewN | apply Kd.V_drew)); exact HO330.out) hb); have n1_ := Aside0.mk (Kd.V_below (by (with_reducible repeat (first | apply Kd.V_alloc | apply Kd.V_drewN | apply Kd.V_drew)); exact HO334.out) hb); have n2_ := Aside0.mk (Kd.R_below (by (with_reducible repeat (first | apply Kd.R_alloc | apply Kd.R_drewN | apply Kd.R_drew)); exact HO339.out) hb); have n3_ := Aside0.mk (Kd.R_below (by (with_reducible repeat (first | apply Kd.R_alloc | apply Kd.R_drewN | apply Kd.R_drew)); exact HO343.out) hb); have n4_ := Aside0.mk (Kd.R_below (by (with_reducible repeat (first | apply Kd.R_alloc | apply Kd.R_drewN | apply Kd.R_drew)); exact HO347.out) hb); have n5_ := Aside0.mk (Kd.V_lower (Kd.V_mono (ok' := fun k_ => some k_ ≠ (v338 : Value).ownBlock ∧ some k_ ≠ (v342 : Value).ownBlock ∧ some k_ ≠ (v346 : Value).ownBlock) ho0 (fun k_ hk_ => ⟨(Kd.fresh' (Kd.R_lt (by (with_reducible repeat (first | apply Kd.R_alloc | apply Kd.R_drewN | apply Kd.R_drew)); exact HO339.out)) k_ hk_), (Kd.fresh' (Kd.R_lt (by (with_reducible repeat (first | apply Kd.R_alloc | apply Kd.R_drewN | apply Kd.R_drew)); exact HO343.out)) k_ hk_), (Kd.fresh' (Kd.R_lt (by (with_reducible repeat (first | apply Kd.R_alloc | apply Kd.R_drewN | apply Kd.R_drew)); exact HO347.out)) k_ hk_)⟩)) (below_size (by repeat (first | (with_reducible first | exact HB.out | apply below_alloc | apply pw_below_drewN | apply below_drew1) | exact HB.out)))); have n6_ := Aside0.mk (below_step (by repeat (first | (with_reducible first | exact HB.out | apply below_alloc | apply pw_below_drewN | apply below_drew1) | exact HB.out)) hb); clear HO330; clear HO334; clear HO339; clear HO343; clear HO347; clear HB; have HO330 := n0_; have HO334 := n1_; have HO339 := n2_; have HO343 := n3_; have HO347 := n4_; have HO350 := n5_; have HB := n6_; clear n0_ n1_ n2_ n3_ n4_ n5_ n6_; (try clear hb); (try clear hb2); (try clear hk); (try clear hi); (try clear ho0); obtain ⟨Ao42, co42, eo42⟩ := Kd.V_slice HO330.out; subst eo42; obtain ⟨Ao43, co43, eo43⟩ := Kd.V_slice HO334.out; subst eo43) | ((with_reducible refine gate_callee_t (t := 69) rfl ?_); refine goesT_ (some 72) rfl rfl Try.func29 (by kernel_rfl) rfl #[.slice Ao42 t328.length co42, .slice Ao43 t332.length co43] rfl rfl (by (try simp only [List.map_toArray, List.map_cons, List.map_nil]); first | done | rfl | (simp only [List.length_drop, List.length_take]; rfl)) ?_; (with_reducible refine (syzygyref02_Same.calls kj3 _ _ t328 _ _ t332 true _ ?side1 ?side2 ?side3 ?side4 A18.out).mono ?_); (case side1 => repeat (first | exact (Kd.V_reads' HO330.out).2.2 | (with_reducible refine Kd.C_alloc ?_ _) | (with_reducible refine Kd.C_drewN ?_ _) | (with_reducible refine Kd.C_drew ?_))); (case side2 => exact (Kd.V_reads' HO330.out).2.1); (case side3 => repeat (first | exact (Kd.V_reads' HO334.out).2.2 | (with_reducible refine Kd.C_alloc ?_ _) | (with_reducible refine Kd.C_drewN ?_ _) | (with_reducible refine Kd.C_drew ?_))); (case side4 => exact (Kd.V_reads' HO334.out).2.1); rintro e w' ⟨rfl, ⟨nd, rfl⟩⟩; refine ⟨_, rfl, ?_⟩; obtain ⟨Ao44, co44, eo44⟩ := Kd.R_slice HO339.out; subst eo44; obtain ⟨Ao45, co45, eo45⟩ := Kd.R_slice HO343.out; subst eo45) | ((with_reducible refine gate_dst (N := 82) rfl ?_); (try (refine gate_guard (by rfl) ?_; dsimp only)); refine gate_guard (by first | rfl | kernel_rfl) ?_; dsimp only; (with_reducible refine gate_callee_t (t := 79) rfl ?_); refine goesT_ (some 82) rfl rfl Try.func29 (by kernel_rfl) rfl #[.slice Ao44 t336.length co44, .slice Ao45 t340.length co45] rfl rfl (by (try simp only [List.map_toArray, List.map_cons, List.map_nil]); first | done | rfl | (simp only [List.length_drop, List.length_take]; rfl)) ?_; (with_reducible refine (syzygyref02_Same.calls kj3 _ _ t336 _ _ t340 true _ ?side1 ?side2 ?side3 ?side4 A21.out).mono ?_); (case side1 => repeat (first | exact (Kd.R_reads' HO339.out).2.2 | (with_reducible refine Kd.C_alloc ?_ _) | (with_reducible refine Kd.C_drewN ?_ _) | (with_reducible refine Kd.C_drew ?_))); (case side2 => exact (Kd.R_reads' HO339.out).2.1); (case side3 => repeat (first | exact (Kd.R_reads' HO343.out).2.2 | (with_reducible refine Kd.C_alloc ?_ _) | (with_reducible refine Kd.C_drewN ?_ _) | (with_reducible refine Kd.C_drew ?_))); (case side4 => exact (Kd.R_reads' HO343.out).2.1); rintro e w' ⟨rfl, ⟨nd, rfl⟩⟩; refine ⟨_, rfl, ?_⟩; obtain ⟨Ao46, co46, eo46⟩ := Kd.R_slice HO347.out; subst eo46; obtain ⟨Ao47, co47, eo47⟩ := Kd.V_slice HO350.out; subst eo47) | ((with_reducible refine gate_dst (N := 93) rfl ?_); (try (refine gate_guard (by rfl) ?_; dsimp only)); refine gate_guard (by first | rfl | kernel_rfl) ?_; dsimp only; (with_reducible refine gate_callee_t (t := 90) rfl ?_); refine goesT_ (some 93) rfl rfl Try.func29 (by kernel_rfl) rfl #[.slice Ao46 t344.length co46, .slice Ao47 t348.length co47] rfl rfl (by (try simp only [List.map_toArray, List.map_cons, List.map_nil]); first | done | rfl | (simp only [List.length_drop, List.length_take]; rfl)) ?_; (with_reducible refine (syzygyref02_Same.calls kj3 _ _ t344 _ _ t348 true _ ?side1 ?side2 ?side3 ?side4 A24.out).mono ?_); (case side1 => repeat (first | exact (Kd.R_reads' HO347.out).2.2 | (with_reducible refine Kd.C_alloc ?_ _) | (with_reducible refine Kd.C_drewN ?_ _) | (with_reducible refine Kd.C_drew ?_))); (case side2 => exact (Kd.R_reads' HO347.out).2.1); (case side3 => repeat (first | exact (Kd.V_reads' HO350.out).2.2 | (with_reducible refine Kd.C_alloc ?_ _) | (with_reducible refine Kd.C_drewN ?_ _) | (with_reducible refine Kd.C_drew ?_))); (case side4 => exact (Kd.V_reads' HO350.out).2.1); rintro e w' ⟨rfl, ⟨nd, rfl⟩⟩; refine ⟨_, rfl, ?_⟩) | ((with_reducible refine gate_dst (N := 102) rfl ?_); (try (refine gate_guard (by rfl) ?_; dsimp only)); refine gate_guard (by first | rfl | kernel_rfl) ?_; dsimp only; (with_reducible refine gate_callee (f := 25) rfl ?_); refine goesL_ (some 102) rfl rfl Try.func25 (by kernel_rfl) rfl #[.slice A0 l0.length c0] rfl (by (try simp only [List.map_toArray, List.map_cons, List.map_nil]); first | done | rfl | (simp only [List.length_drop, List.length_take]; rfl)) ?_; (with_reducible refine (nat_May.calls _ _ l0 t355 _ ?side1 ?side2 A27.out).mono ?_); (case side1 => repeat (first | exact (Kd.C_below HR0.out (by repeat (first | (with_reducible first | exact HB.out | apply below_alloc | apply pw_below_drewN | apply below_drew1) | exact HB.out))) | (with_reducible refine Kd.C_alloc ?_ _) | (with_reducible refine Kd.C_drewN ?_ _) | (with_reducible refine Kd.C_drew ?_))); (case side2 => exact HC0.out); rintro e w' ⟨rfl, ⟨nd, rfl⟩⟩; refine ⟨_, rfl, ?_⟩) | ((with_reducible refine gate_dst (N := 104) rfl ?_); (try (refine gate_guard (by rfl) ?_; dsimp only)); refine gate_guard (by first | rfl | kernel_rfl) ?_; dsimp only; (with_reducible refine gate_callee (f := 22) rfl ?_); refine goesL_ (some 104) rfl rfl Try.func22 (by kernel_rfl) rfl #[.slice A0 l0.length c0] rfl (by (try simp only [List.map_toArray, List.map_cons, List.map_nil]); first | done | rfl | (simp only [List.length_drop, List.length_take]; rfl)) ?_; (with_reducible refine (syzygyref02_May.calls _ _ l0 t356 _ ?side1 ?side2 A28.out).mono ?_); (case side1 => repeat (first | exact (Kd.C_below HR0.out (by repeat (first | (with_reducible first | exact HB.out | apply below_alloc | apply pw_below_drewN | apply below_drew1) | exact HB.out))) | (with_reducible refine Kd.C_alloc ?_ _) | (with_reducible refine Kd.C_drewN ?_ _) | (with_reducible refine Kd.C_drew ?_))); (case side2 => exact HC0.out); rintro e w' ⟨rfl, ⟨nd, rfl⟩⟩; refine ⟨_, rfl, ?_⟩) | ((with_reducible refine gate_dst (N := 110) rfl ?_); (try (refine gate_guard (by rfl) ?_; dsimp only)); refine gate_guard (by first | rfl | kernel_rfl) ?_; dsimp only; (with_reducible refine gate_callee (f := 30) rfl ?_); refine goesL_ (some 110) rfl rfl Try.func30 (by kernel_rfl) rfl #[.slice A0 l0.length c0, .slice A1 l1.length c1] rfl (by (try simp only [List.map_toArray, List.map_cons, List.map_nil]); first | done | rfl | (simp only [List.length_drop, List.length_take]; rfl)) ?_; (with_reducible refine (nat_Cmp.calls kj3 _ _ l0 _ _ l1 t357 _ ?side1 ?side2 ?side3 ?side4 A30.out).mono ?_); (case side1 => repeat (first | exact (Kd.C_below HR0.out (by repeat (first | (with_reducible first | exact HB.out | apply below_alloc | apply pw_below_drewN | apply below_drew1) | exact HB.out))) | (with_reducible refine Kd.C_alloc ?_ _) | (with_reducible refine Kd.C_drewN ?_ _) | (with_reducible refine Kd.C_drew ?_))); (case side2 => exact HC0.out); (case side3 => repeat (first | exact (Kd.C_below HR1.out (by repeat (first | (with_reducible first | exact HB.out | apply below_alloc | apply pw_below_drewN | apply below_drew1) | exact HB.out))) | (with_reducible refine Kd.C_alloc ?_ _) | (with_reducible refine Kd.C_drewN ?_ _) | (with_reducible refine Kd.C_drew ?_))); (case side4 => exact HC1.out); rintro e w48 ⟨rfl, hb⟩; refine ⟨_, rfl, ?_⟩; have n0_ := Aside0.mk (Kd.V_below (by (with_reducible repeat (first | apply Kd.V_alloc | apply Kd.V_drewN | apply Kd.V_drew)); exact HO330.out) hb); have n1_ := Aside0.mk (Kd.V_below (by (with_reducible repeat (first | apply Kd.V_alloc | apply Kd.V_drewN | apply Kd.V_drew)); exact HO334.out) hb); have n2_ := Aside0.mk (Kd.R_below (by (with_reducible repeat (first | apply Kd.R_alloc | apply Kd.R_drewN | apply Kd.R_drew)); exact HO339.out) hb); have n3_ := Aside0.mk (Kd.R_below (by (with_reducible repeat (first | apply Kd.R_alloc | apply Kd.R_drewN | apply Kd.R_drew)); exact HO343.out) hb); have n4_ := Aside0.mk (Kd.R_below (by (with_reducible repeat (first | apply Kd.R_alloc | apply Kd.R_drewN | apply Kd.R_drew)); exact HO347.out) hb); have n5_ := Aside0.mk (Kd.V_below (by (with_reducible repeat (first | apply Kd.V_alloc | apply Kd.V_drewN | apply Kd.V_drew)); exact HO350.out) hb); have n6_ := Aside0.mk (below_step (by repeat (first | (with_reducible first | exact HB.out | apply below_alloc | apply pw_below_drewN | apply below_drew1) | exact HB.out)) hb); clear HO330; clear HO334; clear HO339; clear HO343; clear HO347; clear HO350; clear HB; have HO330 := n0_; have HO334 := n1_; have HO339 := n2_; have HO343 := n3_; have HO347 := n4_; have HO350 := n5_; have HB := n6_; clear n0_ n1_ n2_ n3_ n4_ n5_ n6_; (try clear hb); (try clear hb2); (try clear hk); (try clear hi)) | ((with_reducible refine gate_dst (N := 113) rfl ?_); (try (refine gate_guard (by rfl) ?_; dsimp only)); refine gate_guard (by first | rfl | kernel_rfl) ?_; dsimp only; (with_reducible refine gate_callee (f := 47) rfl ?_); refine goesL_ (some 113) rfl rfl Try.func47 (by kernel_rfl) rfl #[.slice A0 l0.length c0, .slice A1 l1.length c1] rfl (by (try simp only [List.map_toArray, List.map_cons, List.map_nil]); first | done | rfl | (simp only [List.length_drop, List.length_take]; rfl)) ?_; (with_reducible refine (syzygyref02_Cmp.calls kj3 _ _ l0 _ _ l1 t358 _ ?side1 ?side2 ?side3 ?side4 A31.out).mono ?_); (case side1 => repeat (first | exact (Kd.C_below HR0.out HB.out) | (with_reducible refine Kd.C_alloc ?_ _) | (with_reducible refine Kd.C_drewN ?_ _) | (with_reducible refine Kd.C_drew ?_))); (case side2 => exact HC0.out); (case side3 => repeat (first | exact (Kd.C_below HR1.out HB.out) | (with_reducible refine Kd.C_alloc ?_ _) | (with_reducible refine Kd.C_drewN ?_ _) | (with_reducible refine Kd.C_drew ?_))); (case side4 => exact HC1.out); rintro e w49 ⟨rfl, hb⟩; refine ⟨_, rfl, ?_⟩; have n0_ := Aside0.mk (Kd.V_below (by (with_reducible repeat (first | apply Kd.V_alloc | apply Kd.V_drewN | apply Kd.V_drew)); exact HO330.out) hb); have n1_ := Aside0.mk (Kd.V_below (by (with_reducible repeat (first | apply Kd.V_alloc | apply Kd.V_drewN | apply Kd.V_drew)); exact HO334.out) hb); have n2_ := Aside0.mk (Kd.R_below (by (with_reducible repeat (first | apply Kd.R_alloc | apply Kd.R_drewN | apply Kd.R_drew)); exact HO339.out) hb); have n3_ := Aside0.mk (Kd.R_below (by (with_reducible repeat (first | apply Kd.R_alloc | apply Kd.R_drewN | apply Kd.R_drew)); exact HO343.out) hb); have n4_ := Aside0.mk (Kd.R_below (by (with_reducible repeat (first | apply Kd.R_alloc | apply Kd.R_drewN | apply Kd.R_drew)); exact HO347.out) hb); have n5_ := Aside0.mk (Kd.V_below (by (with_reducible repeat (first | apply Kd.V_alloc | apply Kd.V_drewN | apply Kd.V_drew)); exact HO350.out) hb); have n6_ := Aside0.mk (below_step (by repeat (first | (with_reducible first | exact HB.out | apply below_alloc | apply pw_below_drewN | apply below_drew1) | exact HB.out)) hb); clear HO330; clear HO334; clear HO339; clear HO343; clear HO347; clear HO350; clear HB; have HO330 := n0_; have HO334 := n1_; have HO339 := n2_; have HO343 := n3_; have HO347 := n4_; have HO350 := n5_; have HB := n6_; clear n0_ n1_ n2_ n3_ n4_ n5_ n6_; (try clear hb); (try clear hb2); (try clear hk); (try clear hi)) | ((with_reducible refine gate_dst (N := 119) rfl ?_); (try (refine gate_guard (by rfl) ?_; dsimp only)); refine gate_guard (by first | rfl | kernel_rfl) ?_; dsimp only; (with_reducible refine gate_callee (f := 41) rfl ?_); refine goesL_ (some 119) rfl rfl Try.func41 (by kernel_rfl) rfl #[.int .u64 a2] rfl (by (try simp only [List.map_toArray, List.map_cons, List.map_nil]); first | done | rfl | (simp only [List.length_drop, List.length_take]; rfl)) ?_; (with_reducible refine (nat_Of.calls a2 t359 _ A33.out).mono ?_); rintro e w50 ⟨v360, rfl, ho0, hb⟩; refine ⟨_, rfl, ?_⟩; have n0_ := Aside0.mk (Kd.V_elder' (by (with_reducible repeat (first | apply Kd.V_alloc | apply Kd.V_drewN | apply Kd.V_drew)); exact HO330.out) (Kd.R_base ho0) hb); have n1_ := Aside0.mk (Kd.V_elder' (by (with_reducible repeat (first | apply Kd.V_alloc | apply Kd.V_drewN | apply Kd.V_drew)); exact HO334.out) (Kd.R_base ho0) hb); have n2_ := Aside0.mk (Kd.R_elder' (by (with_reducible repeat (first | apply Kd.R_alloc | apply Kd.R_drewN | apply Kd.R_drew)); exact HO339.out) (Kd.R_base ho0) hb); have n3_ := Aside0.mk (Kd.R_elder' (by (with_reducible repeat (first | apply Kd.R_alloc | apply Kd.R_drewN | apply Kd.R_drew)); exact HO343.out) (Kd.R_base ho0) hb); have n4_ := Aside0.mk (Kd.R_elder' (by (with_reducible repeat (first | apply Kd.R_alloc | apply Kd.R_drewN | apply Kd.R_drew)); exact HO347.out) (Kd.R_base ho0) hb); have n5_ := Aside0.mk (Kd.V_elder' (by (with_reducible repeat (first | apply Kd.V_alloc | apply Kd.V_drewN | apply Kd.V_drew)); exact HO350.out) (Kd.R_base ho0) hb); have n6_ := Aside0.mk (Kd.R_lower (Kd.R_new' (Kd.R_new' (Kd.R_new' ho0 (Kd.R_lt (by (with_reducible repeat (first | apply Kd.R_alloc | apply Kd.R_drewN | apply Kd.R_drew)); exact HO339.out))) (Kd.R_lt (by (with_reducible repeat (first | apply Kd.R_alloc | apply Kd.R_drewN | apply Kd.R_drew)); exact HO343.out))) (Kd.R_lt (by (with_reducible repeat (first | apply Kd.R_alloc | apply Kd.R_drewN | apply Kd.R_drew)); exact HO347.out))) (below_size (by repeat (first | (with_reducible first | exact HB.out | apply below_alloc | apply pw_below_drewN | apply below_drew1) | exact HB.out)))); have n7_ := Aside0.mk (below_step (by repeat (first | (with_reducible first | exact HB.out | apply below_alloc | apply pw_below_drewN | apply below_drew1) | exact HB.out)) hb); clear HO330; clear HO334; clear HO339; clear HO343; clear HO347; clear HO350; clear HB; have HO330 := n0_; have HO334 := n1_; have HO339 := n2_; have HO343 := n3_; have HO347 := n4_; have HO350 := n5_; have HO361 := n6_; have HB := n7_; clear n0_ n1_ n2_ n3_ n4_ n5_ n6_ n7_; (try clear hb); (try clear hb2); (try clear hk); (try clear hi); (try clear ho0)) | ((with_reducible refine gate_dst (N := 121) rfl ?_); (try (refine gate_guard (by rfl) ?_; dsimp only)); refine gate_guard (by first | rfl | kernel_rfl) ?_; dsimp only; (with_reducible refine gate_callee (f := 48) rfl ?_); refine goesL_ (some 121) rfl rfl Try.func48 (by kernel_rfl) rfl #[.int .u64 a2] rfl (by (try simp only [List.map_toArray, List.map_cons, List.map_nil]); first | done | rfl | (simp only [List.length_drop, List.length_take]; rfl)) ?_; (with_reducible refine (syzygyref02_Of.calls kj3 a2 t362 _ A34.out).mono ?_); rintro e w51 ⟨v363, rfl, ho0, hb⟩; refine ⟨_, rfl, ?_⟩; have n0_ := Aside0.mk (Kd.V_elder' (by (with_reducible repeat (first | apply Kd.V_alloc | apply Kd.V_drewN | apply Kd.V_drew)); exact HO330.out) (Kd.R_base ho0) hb); have n1_ := Aside0.mk (Kd.V_elder' (by (with_reducible repeat (first | apply Kd.V_alloc | apply Kd.V_drewN | apply Kd.V_drew)); exact HO334.out) (Kd.R_base ho0) hb); have n2_ := Aside0.mk (Kd.R_elder' (by (with_reducible repeat (first | apply Kd.R_alloc | apply Kd.R_drewN | apply Kd.R_drew)); exact HO339.out) (Kd.R_base ho0) hb); have n3_ := Aside0.mk (Kd.R_elder' (by (with_reducible repeat (first | apply Kd.R_alloc | apply Kd.R_drewN | apply Kd.R_drew)); exact HO343.out) (Kd.R_base ho0) hb); have n4_ := Aside0.mk (Kd.R_elder' (by (with_reducible repeat (first | apply Kd.R_alloc | apply Kd.R_drewN | apply Kd.R_drew)); exact HO347.out) (Kd.R_base ho0) hb); have n5_ := Aside0.mk (Kd.V_elder' (by (with_reducible repeat (first | apply Kd.V_alloc | apply Kd.V_drewN | apply Kd.V_drew)); exact HO350.out) (Kd.R_base ho0) hb); have n6_ := Aside0.mk (Kd.R_elder' (by (with_reducible repeat (first | apply Kd.R_alloc | apply Kd.R_drewN | apply Kd.R_drew)); exact HO361.out) (Kd.R_base ho0) hb); have n7_ := Aside0.mk (Kd.R_lower (Kd.R_new' (Kd.R_new' (Kd.R_new' (Kd.R_new' ho0 (Kd.R_lt (by (with_reducible repeat (first | apply Kd.R_alloc | apply Kd.R_drewN | apply Kd.R_drew)); exact HO339.out))) (Kd.R_lt (by (with_reducible repeat (first | apply Kd.R_alloc | apply Kd.R_drewN | apply Kd.R_drew)); exact HO343.out))) (Kd.R_lt (by (with_reducible repeat (first | apply Kd.R_alloc | apply Kd.R_drewN | apply Kd.R_drew)); exact HO347.out))) (Kd.R_lt (by (with_reducible repeat (first | apply Kd.R_alloc | apply Kd.R_drewN | apply Kd.R_drew)); exact HO361.out))) (below_size (by repeat (first | (with_reducible first | exact HB.out | apply below_alloc | apply pw_below_drewN | apply below_drew1) | exact HB.out)))); have n8_ := Aside0.mk (below_step (by repeat (first | (with_reducible first | exact HB.out | apply below_alloc | apply pw_below_drewN | apply below_drew1) | exact HB.out)) hb); clear HO330; clear HO334; clear HO339; clear HO343; clear HO347; clear HO350; clear HO361; clear HB; have HO330 := n0_; have HO334 := n1_; have HO339 := n2_; have HO343 := n3_; have HO347 := n4_; have HO350 := n5_; have HO361 := n6_; have HO364 := n7_; have HB := n8_; clear n0_ n1_ n2_ n3_ n4_ n5_ n6_ n7_ n8_; (try clear hb); (try clear hb2); (try clear hk); (try clear hi); (try clear ho0); obtain ⟨Ao52, co52, eo52⟩ := Kd.R_slice HO361.out; subst eo52; obtain ⟨Ao53, co53, eo53⟩ := Kd.R_slice HO364.out; subst eo53) | ((with_reducible refine gate_dst (N := 122) rfl ?_); (try (refine gate_guard (by rfl) ?_; dsimp only)); refine gate_guard (by first | rfl | kernel_rfl) ?_; dsimp only; (with_reducible refine gate_callee_t (t := 117) rfl ?_); refine goesT_ (some 122) rfl rfl Try.func29 (by kernel_rfl) rfl #[.slice Ao52 t359.length co52, .slice Ao53 t362.length co53] rfl rfl (by (try simp only [List.map_toArray, List.map_cons, List.map_nil]); first | done | rfl | (simp only [List.length_drop, List.length_take]; rfl)) ?_; (with_reducible refine (syzygyref02_Same.calls kj3 _ _ t359 _ _ t362 t365 _ ?side1 ?side2 ?side3 ?side4 A35.out).mono ?_); (case side1 => repeat (first | exact (Kd.R_reads' HO361.out).2.2 | (with_reducible refine Kd.C_alloc ?_ _) | (with_reducible refine Kd.C_drewN ?_ _) | (with_reducible refine Kd.C_drew ?_))); (case side2 => exact (Kd.R_reads' HO361.out).2.1); (case side3 => repeat (first | exact (Kd.R_reads' HO364.out).2.2 | (with_reducible refine Kd.C_alloc ?_ _) | (with_reducible refine Kd.C_drewN ?_ _) | (with_reducible refine Kd.C_drew ?_))); (case side4 => exact (Kd.R_reads' HO364.out).2.1); rintro e w' ⟨rfl, ⟨nd, rfl⟩⟩; refine ⟨_, rfl, ?_⟩))
                        go_ret
                        exact ⟨by first | rfl | (rw [HRT_.out]; rfl) | (simp only [HRT_.out]; done) | exact of_decide_eq_true HRT_.out | (have h_ := HRT_.out; simp at h_ ⊢; exact h_) | (have h_ := HRT_.out; simp at h_ ⊢; omega) | (have h_ := HRT_.out; simp [h_]; done) | (simp [errW_none, errW_some] <;> rfl) | (simp [*, errW_none, errW_some] <;> rfl), by repeat (first | (with_reducible first | exact HB.out | apply below_alloc | apply pw_below_drewN | apply below_drew1) | exact HB.out)⟩
                      · rw [if_neg c32] at H
                        have c32b0 : (t357 == t358) = false := beq_eq_false_iff_ne.mpr c32
                        have c32b1 : (t357 != t358) = true := bne_iff_ne.mpr c32
                        exact absurd H (by simp)
                    · rw [if_neg c29] at H
                      have c29b0 : (t355 == t356) = false := by simpa using c29
                      (try (have c29b1 : decide (t355 = t356) = false := by simpa using c29))
                      (try (have c29b2 : (t355 == t356) = false := by simpa using c29))
                      (try (have c29b3 : ¬ (t355 = t356) := by simpa using c29))
                      clear c29
                      exact absurd H (by simp)
                  · rw [if_neg c26] at H
                    have c26b0 : (t345 == t351) = false := beq_eq_false_iff_ne.mpr c26
                    have c26b1 : (t345 != t351) = true := bne_iff_ne.mpr c26
                    exact absurd H (by simp)
                · replace c25 := Bool.eq_false_iff.mpr c25
                  subst c25
                  have H1 : (some false) = some true := by rw [if_neg (show ¬ (false = true) by decide)] at H; exact H
                  clear H
                  have H := H1
                  clear H1
                  exact absurd H (by simp)
              · rw [if_neg c23] at H
                have c23b0 : (t337 == t341) = false := beq_eq_false_iff_ne.mpr c23
                have c23b1 : (t337 != t341) = true := bne_iff_ne.mpr c23
                exact absurd H (by simp)
            · replace c22 := Bool.eq_false_iff.mpr c22
              subst c22
              have H1 : (some false) = some true := by rw [if_neg (show ¬ (false = true) by decide)] at H; exact H
              clear H
              have H := H1
              clear H1
              exact absurd H (by simp)
          · rw [if_neg c20] at H
            have c20b0 : (t331 == t335) = false := beq_eq_false_iff_ne.mpr c20
            have c20b1 : (t331 != t335) = true := bne_iff_ne.mpr c20
            exact absurd H (by simp)
        · replace c19 := Bool.eq_false_iff.mpr c19
          subst c19
          have H1 : (some false) = some true := by rw [if_neg (show ¬ (false = true) by decide)] at H; exact H
          clear H
          have H := H1
          clear H1
          exact absurd H (by simp)

/-- THE ONE PURE STATEMENT of syzygylaw02_NatTells: yours. -/
def syzygylaw02_NatTells.Pure : Prop := ∀ (l0 : List Int) (l1 : List Int) (a2 : Int), l0.length ≤ maxLen → l0.length * 8 ≤ 140737488351232 → (∀ x ∈ l0, (Lit.int .u64 x).wf = true) → l1.length ≤ maxLen → l1.length * 8 ≤ 140737488351232 → (∀ x ∈ l1, (Lit.int .u64 x).wf = true) → (Lit.int .u64 a2).wf = true → ∃ k, syzygylaw02_NatTells.f k l0 l1 a2 = some true
theorem syzygylaw02_NatTells.walk (P : syzygylaw02_NatTells.Pure) (a0 : Option Addr) (len0 cap0 : Nat) (z0 : List Int) (a1 : Option Addr) (len1 cap1 : Nat) (z1 : List Int) (a2 : Int) (w : World) (w0 : (a0 = none ∧ len0 = 0 ∧ cap0 = 0 ∧ z0 = []) ∨ ∃ x, a0 = some x ∧ len0 ≤ cap0 ∧ cap0 ≤ maxLen ∧ z0.length = cap0 ∧ (∀ i, i < z0.length → w.cell? (x.add i) = some (.int .u64 (z0.getD i 0))) ∧ ∀ n ∈ z0, (Lit.int .u64 n).wf = true) (y0 : len0 * 8 ≤ 140737488351232) (w1 : (a1 = none ∧ len1 = 0 ∧ cap1 = 0 ∧ z1 = []) ∨ ∃ x, a1 = some x ∧ len1 ≤ cap1 ∧ cap1 ≤ maxLen ∧ z1.length = cap1 ∧ (∀ i, i < z1.length → w.cell? (x.add i) = some (.int .u64 (z1.getD i 0))) ∧ ∀ n ∈ z1, (Lit.int .u64 n).wf = true) (y1 : len1 * 8 ≤ 140737488351232) (w2 : (Lit.int .u64 a2).wf = true) :
    Calls Try.prog 14 #[.slice a0 len0 cap0, .slice a1 len1 cap1, .int .u64 a2] w fun e w' => e = .returned (.bool true) ∧ Below w.heap.size w w' := by
  obtain ⟨l0, rfl, hr0, hm0, hw0, hc0⟩ := ReadsInt.ofRowC w0
  obtain ⟨l1, rfl, hr1, hm1, hw1, hc1⟩ := ReadsInt.ofRowC w1
  obtain ⟨k, h⟩ := P l0 l1 a2 hm0 y0 hw0 hm1 y1 hw1 w2
  refine (syzygylaw02_NatTells.calls k _ _ l0 _ _ l1 a2 w (Kd.C_of_reads (d := (0 : Int)) (h1 := fun _ => rfl) hr0) hc0 (Kd.C_of_reads (d := (0 : Int)) (h1 := fun _ => rfl) hr1) hc1 h).mono ?_
  rintro e w' ⟨rfl, hd⟩
  exact ⟨rfl, hd⟩

end Go.Proofs.Ytmknpclfanblfaa.PONatTells
