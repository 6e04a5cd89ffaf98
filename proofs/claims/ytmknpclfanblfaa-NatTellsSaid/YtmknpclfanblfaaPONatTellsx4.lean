-- Written by a program of this session (pr.py, over the kit's print.py).
import Derived.Test.YtmknpclfanblfaaPONatTellsx0
import Derived.Test.YtmknpclfanblfaaPONatTellsx1
import Derived.Test.YtmknpclfanblfaaPONatTellsx3
namespace Go.Proofs.Ytmknpclfanblfaa.PONatTells
open Go.RowKit Go.Proofs.YtmknpclfanblfaaN Go.Proofs.YtmknpclfanblfaaW.PrintWords Go.Proofs.YtmknpclfanblfaaW.PrintLast Go.Proofs.YtmknpclfanblfaaW.PrintMore
attribute [local go_sem] max2_int min2_int max_two min_two max_three min_three max_four min_four   -- for this text's walks alone
set_option linter.unusedVariables false
set_option linter.unusedSimpArgs false

/-! ### nat_Mul: function 23 -/

def nat_Mul.f (k : Nat) (l0 l1 : List Int) : Option (List Int × Int) := (nat_May.f l0).bind fun t => if t = true then ((nat_May.f l1).bind fun u => if u = true then ((limb_Mul.f k l0 l1).bind fun x => if (x.length : Int) > 8 then some ([], 21) else some (x, 0)) else some ([], 1)) else some ([], 1)
theorem nat_Mul.mono : ∀ a0 a1 k, LeO (nat_Mul.f k a0 a1) (nat_Mul.f (k + 1) a0 a1) := by
  intro a0 a1 k
  unfold nat_Mul.f
  exact LeO.bind (LeO.refl _) fun _ => LeO.ite (LeO.bind (LeO.refl _) fun _ => LeO.ite (LeO.bind (limb_Mul.mono _ _ _) fun _ => LeO.refl _) (LeO.refl _)) (LeO.refl _)
set_option maxHeartbeats 8000000 in
set_option maxRecDepth 100000 in
theorem nat_Mul.both (k : Nat) (A0 : Option Addr) (c0 : Nat) (l0 : List Int) (A1 : Option Addr) (c1 : Nat) (l1 : List Int) (r1 : List Int) (r2 : Int) (w : World) (hr0 : Kd.C (Kd.int .u64) w A0 l0.length l0) (hc0 : l0.length ≤ c0) (hr1 : Kd.C (Kd.int .u64) w A1 l1.length l1) (hc1 : l1.length ≤ c1) (h : nat_Mul.f k l0 l1 = some (r1, r2)) :
    Calls Try.prog 61 #[.slice A0 l0.length c0, .slice A1 l1.length c1, .func (.func 62) #[] #[]] w fun e w' => ∃ v0_ : Value, e = .returned (.tuple #[v0_, .int .i64 r2]) ∧ Kd.R (Kd.int .u64) 50 w' w.heap.size (fun _ => True) v0_ r1 ∧ Below w.heap.size w w' := by
  have HR0 := Aside0.mk hr0
  have HC0 := Aside0.mk hc0
  clear hr0 hc0
  have HR1 := Aside0.mk hr1
  have HC1 := Aside0.mk hc1
  clear hr1 hc1
  unfold nat_Mul.f at h
  obtain ⟨t, ht, h⟩ := Option.bind_eq_some_iff.mp h
  have HT := Aside0.mk ht
  clear ht
  cases t with
  | false =>
    rw [if_neg (by decide)] at h
    simp only [Option.some.injEq, Prod.mk.injEq] at h
    obtain ⟨rfl, rfl⟩ := h
    go_enter Try.func61, Try.ntmps61
    go_wp2_with ((go_at_call 25; (with_reducible refine (nat_May.calls _ _ l0 false _ (by repeat (first | exact HR0.out | (with_reducible refine Kd.C_drewN ?_ _) | (with_reducible refine Kd.C_drew ?_))) HC0.out HT.out).mono ?_); rintro e w1 ⟨rfl, nd, rfl⟩))
    go_ret2
    exact ⟨_, rfl, Kd.R_nil _ _ _ _ _, (show Below w.heap.size w _ from by repeat (first | apply pw_below_drewN | apply below_drew1 | exact Below.refl _ _))⟩
  | true =>
    rw [if_pos rfl] at h
    obtain ⟨u, hu, h⟩ := Option.bind_eq_some_iff.mp h
    have HU := Aside0.mk hu
    clear hu
    cases u with
    | false =>
      rw [if_neg (by decide)] at h
      simp only [Option.some.injEq, Prod.mk.injEq] at h
      obtain ⟨rfl, rfl⟩ := h
      go_enter Try.func61, Try.ntmps61
      go_wp2_with (first | (go_at_call 25; (with_reducible refine (nat_May.calls _ _ l0 true _ (by repeat (first | exact HR0.out | (with_reducible refine Kd.C_drewN ?_ _) | (with_reducible refine Kd.C_drew ?_))) HC0.out HT.out).mono ?_); rintro e w1 ⟨rfl, nd, rfl⟩) | (go_at_call 25; (with_reducible refine (nat_May.calls _ _ l1 false _ (by repeat (first | exact HR1.out | (with_reducible refine Kd.C_drewN ?_ _) | (with_reducible refine Kd.C_drew ?_))) HC1.out HU.out).mono ?_); rintro e w1 ⟨rfl, nd, rfl⟩))
      go_ret2
      exact ⟨_, rfl, Kd.R_nil _ _ _ _ _, (show Below w.heap.size w _ from by repeat (first | apply pw_below_drewN | apply below_drew1 | exact Below.refl _ _))⟩
    | true =>
      rw [if_pos rfl] at h
      obtain ⟨x, hx, h⟩ := Option.bind_eq_some_iff.mp h
      have HX := Aside0.mk hx
      clear hx
      by_cases c2 : (x.length : Int) > 8
      · rw [if_pos c2] at h
        simp only [Option.some.injEq, Prod.mk.injEq] at h
        obtain ⟨rfl, rfl⟩ := h
        have c2b0 : decide (8 < (x.length : Int)) = true := decide_eq_true c2
        have c2b1 : decide (8 < x.length) = true := decide_eq_true (by omega)
        clear c2
        go_enter Try.func61, Try.ntmps61
        go_wp2_with (first | (go_at_call 25; (with_reducible refine (nat_May.calls _ _ l0 true _ (by repeat (first | exact HR0.out | (with_reducible refine Kd.C_drewN ?_ _) | (with_reducible refine Kd.C_drew ?_))) HC0.out HT.out).mono ?_); rintro e w1 ⟨rfl, nd, rfl⟩) | (go_at_call 25; (with_reducible refine (nat_May.calls _ _ l1 true _ (by repeat (first | exact HR1.out | (with_reducible refine Kd.C_drewN ?_ _) | (with_reducible refine Kd.C_drew ?_))) HC1.out HU.out).mono ?_); rintro e w1 ⟨rfl, nd, rfl⟩) | ((with_reducible refine gate_callee_t (t := 17) rfl ?_); refine goesT_ (some 20) rfl rfl Try.func62 (by kernel_rfl) rfl #[.slice A0 l0.length c0, .slice A1 l1.length c1] rfl rfl (by (try simp only [List.map_toArray, List.map_cons, List.map_nil]); first | done | rfl) ?_; (with_reducible refine (limb_Mul.calls k _ _ l0 _ _ l1 x _ (by repeat (first | exact HR0.out | (with_reducible refine Kd.C_drewN ?_ _) | (with_reducible refine Kd.C_drew ?_))) HC0.out (by repeat (first | exact HR1.out | (with_reducible refine Kd.C_drewN ?_ _) | (with_reducible refine Kd.C_drew ?_))) HC1.out HX.out).mono ?_); rintro e w2 ⟨v, rfl, ho, hb⟩; refine ⟨_, rfl, ?_⟩; have HO := Aside0.mk ho; have HB2 := Aside0.mk (below_step (show Below w.heap.size w _ from by repeat (first | apply pw_below_drewN | apply below_drew1 | exact Below.refl _ _)) hb); clear ho hb; obtain ⟨Ax, cx, ev⟩ := Kd.R_slice HO.out; subst ev))
        go_ret2
        exact ⟨_, rfl, Kd.R_nil _ _ _ _ _, HB2.out⟩
      · rw [if_neg c2] at h
        simp only [Option.some.injEq, Prod.mk.injEq] at h
        obtain ⟨rfl, rfl⟩ := h
        have c2b0 : decide (8 < (x.length : Int)) = false := decide_eq_false c2
        have c2b1 : decide (8 < x.length) = false := decide_eq_false (by omega)
        clear c2
        go_enter Try.func61, Try.ntmps61
        go_wp2_with (first | (go_at_call 25; (with_reducible refine (nat_May.calls _ _ l0 true _ (by repeat (first | exact HR0.out | (with_reducible refine Kd.C_drewN ?_ _) | (with_reducible refine Kd.C_drew ?_))) HC0.out HT.out).mono ?_); rintro e w1 ⟨rfl, nd, rfl⟩) | (go_at_call 25; (with_reducible refine (nat_May.calls _ _ l1 true _ (by repeat (first | exact HR1.out | (with_reducible refine Kd.C_drewN ?_ _) | (with_reducible refine Kd.C_drew ?_))) HC1.out HU.out).mono ?_); rintro e w1 ⟨rfl, nd, rfl⟩) | ((with_reducible refine gate_callee_t (t := 17) rfl ?_); refine goesT_ (some 20) rfl rfl Try.func62 (by kernel_rfl) rfl #[.slice A0 l0.length c0, .slice A1 l1.length c1] rfl rfl (by (try simp only [List.map_toArray, List.map_cons, List.map_nil]); first | done | rfl) ?_; (with_reducible refine (limb_Mul.calls k _ _ l0 _ _ l1 x _ (by repeat (first | exact HR0.out | (with_reducible refine Kd.C_drewN ?_ _) | (with_reducible refine Kd.C_drew ?_))) HC0.out (by repeat (first | exact HR1.out | (with_reducible refine Kd.C_drewN ?_ _) | (with_reducible refine Kd.C_drew ?_))) HC1.out HX.out).mono ?_); rintro e w2 ⟨v, rfl, ho, hb⟩; refine ⟨_, rfl, ?_⟩; have HO := Aside0.mk ho; have HB2 := Aside0.mk (below_step (show Below w.heap.size w _ from by repeat (first | apply pw_below_drewN | apply below_drew1 | exact Below.refl _ _)) hb); clear ho hb; obtain ⟨Ax, cx, ev⟩ := Kd.R_slice HO.out; subst ev))
        go_ret2
        exact ⟨_, rfl, HO.out, HB2.out⟩
set_option maxHeartbeats 8000000 in
set_option maxRecDepth 100000 in
theorem nat_Mul.calls (k : Nat) (A0 : Option Addr) (c0 : Nat) (l0 : List Int) (A1 : Option Addr) (c1 : Nat) (l1 : List Int) (r1 : List Int) (r2 : Int) (w : World) (hr0 : Kd.C (Kd.int .u64) w A0 l0.length l0) (hc0 : l0.length ≤ c0) (hr1 : Kd.C (Kd.int .u64) w A1 l1.length l1) (hc1 : l1.length ≤ c1) (h : nat_Mul.f k l0 l1 = some (r1, r2)) :
    Calls Try.prog 23 #[.slice A0 l0.length c0, .slice A1 l1.length c1] w fun e w' => ∃ v0_ : Value, e = .returned (.tuple #[v0_, .int .i64 r2]) ∧ Kd.R (Kd.int .u64) 50 w' w.heap.size (fun _ => True) v0_ r1 ∧ Below w.heap.size w w' := by
  have HR0 := Aside0.mk hr0
  have HC0 := Aside0.mk hc0
  have HR1 := Aside0.mk hr1
  have HC1 := Aside0.mk hc1
  have H := Aside0.mk h
  clear hr0 hc0 hr1 hc1 h
  go_enter Try.func23, Try.ntmps23
  go_wp2_with (go_at_call 61; (with_reducible refine (nat_Mul.both k _ _ l0 _ _ l1 r1 r2 _ (by repeat (first | exact HR0.out | (with_reducible refine Kd.C_drewN ?_ _) | (with_reducible refine Kd.C_drew ?_))) HC0.out (by repeat (first | exact HR1.out | (with_reducible refine Kd.C_drewN ?_ _) | (with_reducible refine Kd.C_drew ?_))) HC1.out H.out).mono ?_); rintro e w2 ⟨v, rfl, ho, hb⟩; have HO := Aside0.mk ho; have HB2 := Aside0.mk (below_step (show Below w.heap.size w _ from by repeat (first | apply pw_below_drewN | apply below_drew1 | exact Below.refl _ _)) hb); clear ho hb; obtain ⟨Ax, cx, ev⟩ := Kd.R_slice HO.out; subst ev)
  go_ret2
  exact ⟨_, rfl, HO.out, HB2.out⟩

/-! ### limb_Cmp: function 70 -/
def limb_Cmp.l0 : Nat → List Int → List Int → Int → Option (Int)
  | 0, _, _, _ => none
  | k + 1, x0, x1, x5 => if x5 ≥ 0 then (if 0 ≤ x5 then (if x5 < (x0.length : Int) then (if x5 < (x1.length : Int) then (if (rd x0 x5) < (rd x1 x5) then (some (-1)) else (if (rd x0 x5) > (rd x1 x5) then (some 1) else (limb_Cmp.l0 k x0 x1 (wrap64 (x5 - 1))))) else (none)) else (none)) else (none)) else (some 0)
def limb_Cmp.f (k : Nat) (l0 : List Int) (l1 : List Int) : Option (Int) := (limb_trim.f k l0).bind fun t181 => ((limb_trim.f k l1).bind fun t184 => (if (t181.length : Int) = (t184.length : Int) then (limb_Cmp.l0 k t181 t184 (wrap64 ((t181.length : Int) - 1))) else (if (t181.length : Int) < (t184.length : Int) then (some (-1)) else (some 1))))
theorem limb_Cmp.mono_l : ∀ k, (∀ y0 y1 y2, LeO (limb_Cmp.l0 k y0 y1 y2) (limb_Cmp.l0 (k + 1) y0 y1 y2))
  | 0 => fun _ _ _ r h => by simp [limb_Cmp.l0] at h
  | k + 1 => by
    have ih0 := limb_Cmp.mono_l k
    · intro y0 y1 y2
      unfold limb_Cmp.l0
      repeat' first
      | (with_reducible exact ih0 _ _ _)
      | (with_reducible exact limb_trim.mono _ _)
      | (with_reducible exact LeO.refl _)
      | (with_reducible exact LeO.none _)
      | (with_reducible refine LeO.ite ?_ ?_)
      | (with_reducible refine LeO.bind ?_ (fun _ => ?_))
      | exact ih0 _ _ _
      | exact limb_trim.mono _ _
      | exact LeO.none _
      | refine LeO.ite ?_ ?_
      | refine LeO.bind ?_ (fun _ => ?_)
theorem limb_Cmp.mono : ∀ a0 a1 k, LeO (limb_Cmp.f k a0 a1) (limb_Cmp.f (k + 1) a0 a1) := by
  intro a0 a1 k
  have ih0 := limb_Cmp.mono_l k
  unfold limb_Cmp.f
  repeat' first
      | (with_reducible exact ih0 _ _ _)
      | (with_reducible exact limb_trim.mono _ _)
      | (with_reducible exact LeO.refl _)
      | (with_reducible exact LeO.none _)
      | (with_reducible refine LeO.ite ?_ ?_)
      | (with_reducible refine LeO.bind ?_ (fun _ => ?_))
      | exact ih0 _ _ _
      | exact limb_trim.mono _ _
      | exact LeO.none _
      | refine LeO.ite ?_ ?_
      | refine LeO.bind ?_ (fun _ => ?_)
set_option maxHeartbeats 8000000 in
set_option maxRecDepth 100000 in
theorem limb_Cmp.calls (k : Nat) (A0 : Option Addr) (c0 : Nat) (l0 : List Int) (A1 : Option Addr) (c1 : Nat) (l1 : List Int) (r : Int) (w : World) (hr0 : Kd.C (Kd.int .u64) w A0 l0.length l0) (hc0 : l0.length ≤ c0) (hr1 : Kd.C (Kd.int .u64) w A1 l1.length l1) (hc1 : l1.length ≤ c1) (h : limb_Cmp.f k l0 l1 = some r) :
    Calls Try.prog 70 #[.slice A0 l0.length c0, .slice A1 l1.length c1] w fun e w' => e = .returned (.int .i64 r) ∧ Below w.heap.size w w' := by
  have HR0 := Aside0.mk hr0
  have HC0 := Aside0.mk hc0
  clear hr0 hc0
  have HR1 := Aside0.mk hr1
  have HC1 := Aside0.mk hc1
  clear hr1 hc1
  have HB := Aside0.mk (Below.refl w.heap.size w)
  have H : ((limb_trim.f k l0).bind fun t181 => ((limb_trim.f k l1).bind fun t184 => (if (t181.length : Int) = (t184.length : Int) then (limb_Cmp.l0 k t181 t184 (wrap64 ((t181.length : Int) - 1))) else (if (t181.length : Int) < (t184.length : Int) then (some (-1)) else (some 1))))) = some r := h
  clear h
  replace H := Option.bind_eq_some_iff.mp H
  obtain ⟨t181, A30, H⟩ := H
  replace H : ((limb_trim.f k l1).bind fun t184 => (if (t181.length : Int) = (t184.length : Int) then (limb_Cmp.l0 k t181 t184 (wrap64 ((t181.length : Int) - 1))) else (if (t181.length : Int) < (t184.length : Int) then (some (-1)) else (some 1)))) = some r := H
  have A3 := Aside0.mk A30
  clear A30
  replace H := Option.bind_eq_some_iff.mp H
  obtain ⟨t184, A40, H⟩ := H
  replace H : (if (t181.length : Int) = (t184.length : Int) then (limb_Cmp.l0 k t181 t184 (wrap64 ((t181.length : Int) - 1))) else (if (t181.length : Int) < (t184.length : Int) then (some (-1)) else (some 1))) = some r := H
  have A4 := Aside0.mk A40
  clear A40
  by_cases c5 : (t181.length : Int) = (t184.length : Int)
  · rw [if_pos c5] at H
    have c5b0 : ((t181.length : Int) == (t184.length : Int)) = true := beq_iff_eq.mpr c5
    have c5b1 : ((t181.length : Int) != (t184.length : Int)) = false := bne_eq_false_iff_eq.mpr c5
    have c5b2 : (t181.length == t184.length) = true := by first | simpa using c5 | (simp at c5 ⊢; omega)
    clear c5
    have H' := Aside0.mk H
    clear H
    go_enter Try.func70, Try.ntmps70
    go_wp2_with (first | (go_at_call 83; (with_reducible refine (limb_trim.calls k (fun k_ => k_ < w.heap.size) _ _ l0 t181 _ ?side1 A3.out).mono ?_); (case side1 => exact Kd.V_mk HC0.out (Kd.F_below (Kd.C_F (Kd.heap_int .u64) HR0.out) (by repeat (first | (with_reducible first | exact HB.out | apply below_alloc | apply pw_below_drewN | apply below_drew1) | exact HB.out)))); rintro e w6 ⟨v182, rfl, ho0, hb⟩; have n0_ := Aside0.mk (Kd.V_lower (Kd.V_mono (ok' := fun k_ => True) ho0 (fun k_ hk_ => trivial)) (below_size (by repeat (first | (with_reducible first | exact HB.out | apply below_alloc | apply pw_below_drewN | apply below_drew1) | exact HB.out)))); have n1_ := Aside0.mk (below_step (by repeat (first | (with_reducible first | exact HB.out | apply below_alloc | apply pw_below_drewN | apply below_drew1) | exact HB.out)) hb); clear HB; have HO183 := n0_; have HB := n1_; clear n0_ n1_; (try clear hb); (try clear hb2); (try clear hk); (try clear hi); (try clear ho0)) | (go_at_call 83; (with_reducible refine (limb_trim.calls k (fun k_ => k_ < w.heap.size) _ _ l1 t184 _ ?side1 A4.out).mono ?_); (case side1 => exact Kd.V_mk HC1.out (Kd.F_below (Kd.C_F (Kd.heap_int .u64) HR1.out) (by repeat (first | (with_reducible first | exact HB.out | apply below_alloc | apply pw_below_drewN | apply below_drew1) | exact HB.out)))); rintro e w7 ⟨v185, rfl, ho0, hb⟩; have n0_ := Aside0.mk (Kd.V_below (by (with_reducible repeat (first | apply Kd.V_alloc | apply Kd.V_drewN | apply Kd.V_drew)); exact HO183.out) hb); have n1_ := Aside0.mk (Kd.V_lower (Kd.V_mono (ok' := fun k_ => True) ho0 (fun k_ hk_ => trivial)) (below_size (by repeat (first | (with_reducible first | exact HB.out | apply below_alloc | apply pw_below_drewN | apply below_drew1) | exact HB.out)))); have n2_ := Aside0.mk (below_step (by repeat (first | (with_reducible first | exact HB.out | apply below_alloc | apply pw_below_drewN | apply below_drew1) | exact HB.out)) hb); clear HO183; clear HB; have HO183 := n0_; have HO186 := n1_; have HB := n2_; clear n0_ n1_ n2_; (try clear hb); (try clear hb2); (try clear hk); (try clear hi); (try clear ho0); obtain ⟨Ao8, co8, eo8⟩ := Kd.V_slice HO183.out; subst eo8; obtain ⟨Ao9, co9, eo9⟩ := Kd.V_slice HO186.out; subst eo9))
    repeat (go_quiet (first | (go_at_call 83; (with_reducible refine (limb_trim.calls k (fun k_ => k_ < w.heap.size) _ _ l0 t181 _ ?side1 A3.out).mono ?_); (case side1 => exact Kd.V_mk HC0.out (Kd.F_below (Kd.C_F (Kd.heap_int .u64) HR0.out) (by repeat (first | (with_reducible first | exact HB.out | apply below_alloc | apply pw_below_drewN | apply below_drew1) | exact HB.out)))); rintro e w6 ⟨v182, rfl, ho0, hb⟩; have n0_ := Aside0.mk (Kd.V_lower (Kd.V_mono (ok' := fun k_ => True) ho0 (fun k_ hk_ => trivial)) (below_size (by repeat (first | (with_reducible first | exact HB.out | apply below_alloc | apply pw_below_drewN | apply below_drew1) | exact HB.out)))); have n1_ := Aside0.mk (below_step (by repeat (first | (with_reducible first | exact HB.out | apply below_alloc | apply pw_below_drewN | apply below_drew1) | exact HB.out)) hb); clear HB; have HO183 := n0_; have HB := n1_; clear n0_ n1_; (try clear hb); (try clear hb2); (try clear hk); (try clear hi); (try clear ho0)) | (go_at_call 83; (with_reducible refine (limb_trim.calls k (fun k_ => k_ < w.heap.size) _ _ l1 t184 _ ?side1 A4.out).mono ?_); (case side1 => exact Kd.V_mk HC1.out (Kd.F_below (Kd.C_F (Kd.heap_int .u64) HR1.out) (by repeat (first | (with_reducible first | exact HB.out | apply below_alloc | apply pw_below_drewN | apply below_drew1) | exact HB.out)))); rintro e w7 ⟨v185, rfl, ho0, hb⟩; have n0_ := Aside0.mk (Kd.V_below (by (with_reducible repeat (first | apply Kd.V_alloc | apply Kd.V_drewN | apply Kd.V_drew)); exact HO183.out) hb); have n1_ := Aside0.mk (Kd.V_lower (Kd.V_mono (ok' := fun k_ => True) ho0 (fun k_ hk_ => trivial)) (below_size (by repeat (first | (with_reducible first | exact HB.out | apply below_alloc | apply pw_below_drewN | apply below_drew1) | exact HB.out)))); have n2_ := Aside0.mk (below_step (by repeat (first | (with_reducible first | exact HB.out | apply below_alloc | apply pw_below_drewN | apply below_drew1) | exact HB.out)) hb); clear HO183; clear HB; have HO183 := n0_; have HO186 := n1_; have HB := n2_; clear n0_ n1_ n2_; (try clear hb); (try clear hb2); (try clear hk); (try clear hi); (try clear ho0); obtain ⟨Ao8, co8, eo8⟩ := Kd.V_slice HO183.out; subst eo8; obtain ⟨Ao9, co9, eo9⟩ := Kd.V_slice HO186.out; subst eo9)); try go_wp2_with (first | (go_at_call 83; (with_reducible refine (limb_trim.calls k (fun k_ => k_ < w.heap.size) _ _ l0 t181 _ ?side1 A3.out).mono ?_); (case side1 => exact Kd.V_mk HC0.out (Kd.F_below (Kd.C_F (Kd.heap_int .u64) HR0.out) (by repeat (first | (with_reducible first | exact HB.out | apply below_alloc | apply pw_below_drewN | apply below_drew1) | exact HB.out)))); rintro e w6 ⟨v182, rfl, ho0, hb⟩; have n0_ := Aside0.mk (Kd.V_lower (Kd.V_mono (ok' := fun k_ => True) ho0 (fun k_ hk_ => trivial)) (below_size (by repeat (first | (with_reducible first | exact HB.out | apply below_alloc | apply pw_below_drewN | apply below_drew1) | exact HB.out)))); have n1_ := Aside0.mk (below_step (by repeat (first | (with_reducible first | exact HB.out | apply below_alloc | apply pw_below_drewN | apply below_drew1) | exact HB.out)) hb); clear HB; have HO183 := n0_; have HB := n1_; clear n0_ n1_; (try clear hb); (try clear hb2); (try clear hk); (try clear hi); (try clear ho0)) | (go_at_call 83; (with_reducible refine (limb_trim.calls k (fun k_ => k_ < w.heap.size) _ _ l1 t184 _ ?side1 A4.out).mono ?_); (case side1 => exact Kd.V_mk HC1.out (Kd.F_below (Kd.C_F (Kd.heap_int .u64) HR1.out) (by repeat (first | (with_reducible first | exact HB.out | apply below_alloc | apply pw_below_drewN | apply below_drew1) | exact HB.out)))); rintro e w7 ⟨v185, rfl, ho0, hb⟩; have n0_ := Aside0.mk (Kd.V_below (by (with_reducible repeat (first | apply Kd.V_alloc | apply Kd.V_drewN | apply Kd.V_drew)); exact HO183.out) hb); have n1_ := Aside0.mk (Kd.V_lower (Kd.V_mono (ok' := fun k_ => True) ho0 (fun k_ hk_ => trivial)) (below_size (by repeat (first | (with_reducible first | exact HB.out | apply below_alloc | apply pw_below_drewN | apply below_drew1) | exact HB.out)))); have n2_ := Aside0.mk (below_step (by repeat (first | (with_reducible first | exact HB.out | apply below_alloc | apply pw_below_drewN | apply below_drew1) | exact HB.out)) hb); clear HO183; clear HB; have HO183 := n0_; have HO186 := n1_; have HB := n2_; clear n0_ n1_ n2_; (try clear hb); (try clear hb2); (try clear hk); (try clear hi); (try clear ho0); obtain ⟨Ao8, co8, eo8⟩ := Kd.V_slice HO183.out; subst eo8; obtain ⟨Ao9, co9, eo9⟩ := Kd.V_slice HO186.out; subst eo9)))
    go_loopg [5] k (fun kq v5 w' => ∃ (x5_1 : Int), v5 = .int .i64 x5_1 ∧ Aside0 (limb_Cmp.l0 kq t181 t184 x5_1 = some r) ∧ Aside0 (kq ≤ k) ∧ Aside0 (Kd.V (Kd.int .u64) 50 w' w.heap.size (fun _ => True) (.slice Ao8 t181.length co8) t181) ∧ Aside0 (Kd.V (Kd.int .u64) 50 w' w.heap.size (fun _ => True) (.slice Ao9 t184.length co9) t184) ∧ Aside0 (Below w.heap.size w w'))
    case atStart => exact ⟨(wrap64 ((t181.length : Int) - 1)), (by first | rfl | (simp; done) | (simp [*]; done)), H', ⟨Nat.le_refl _⟩, ⟨by (with_reducible repeat (first | apply Kd.V_alloc | apply Kd.V_drewN | apply Kd.V_drew)); exact HO183.out⟩, ⟨by (with_reducible repeat (first | apply Kd.V_alloc | apply Kd.V_drewN | apply Kd.V_drew)); exact HO186.out⟩, ⟨by repeat (first | (with_reducible first | exact HB.out | apply below_alloc | apply pw_below_drewN | apply below_drew1) | exact HB.out)⟩⟩
    case round =>
      clear H'
      try clear c1
      try clear p2
      try clear c5
      try clear c5b0
      try clear c5b1
      try clear c5b2
      try clear p6
      try clear c7
      obtain ⟨x5_1, rfl, HA, HK1, HO_0, HO_1, HB⟩ := hrel
      cases gk with
      | zero => exact absurd HA.out (by simp [limb_Cmp.l0])
      | succ k1 =>
        have H := HA.out
        clear HA
        simp only [limb_Cmp.l0] at H
        by_cases c10 : x5_1 ≥ 0
        · rw [if_pos c10] at H
          have c10b0 : decide (0 ≤ x5_1) = true := decide_eq_true c10
          clear c10
          by_cases c11 : 0 ≤ x5_1
          · rw [if_pos c11] at H
            have c11b0 : decide (0 ≤ x5_1) = true := decide_eq_true c11
            clear c11
            by_cases c12 : x5_1 < (t181.length : Int)
            · rw [if_pos c12] at H
              have c12b0 : decide (x5_1 < (t181.length : Int)) = true := decide_eq_true c12
              clear c12
              by_cases c13 : x5_1 < (t184.length : Int)
              · rw [if_pos c13] at H
                have c13b0 : decide (x5_1 < (t184.length : Int)) = true := decide_eq_true c13
                clear c13
                by_cases c14 : (rd t181 x5_1) < (rd t184 x5_1)
                · rw [if_pos c14] at H
                  have c14b0 : decide ((rd t181 x5_1) < (rd t184 x5_1)) = true := decide_eq_true c14
                  clear c14
                  obtain rfl := Option.some.inj H
                  have p187 : 0 ≤ (x5_1 : Int) := of_decide_eq_true (by first | (with_reducible assumption) | assumption)
                  have q187 : x5_1 < (t181.length : Int) := of_decide_eq_true (by first | (with_reducible assumption) | assumption)
                  obtain ⟨ad187, e187, hx187_0⟩ := Kd.at_int (Kd.V_reads' HO_0.out).2.2 x5_1 p187 q187
                  cases e187
                  replace p187 := eq_true p187
                  replace q187 := eq_true q187
                  have p188 : 0 ≤ (x5_1 : Int) := of_decide_eq_true (by first | (with_reducible assumption) | assumption)
                  have q188 : x5_1 < (t184.length : Int) := of_decide_eq_true (by first | (with_reducible assumption) | assumption)
                  obtain ⟨ad188, e188, hx188_0⟩ := Kd.at_int (Kd.V_reads' HO_1.out).2.2 x5_1 p188 q188
                  cases e188
                  replace p188 := eq_true p188
                  replace q188 := eq_true q188
                  go_wp2
                  repeat (go_quiet (fail); try go_wp2)
                  go_ret
                  exact ⟨by first | rfl | (simp [errW_none, errW_some] <;> rfl) | (simp [*, errW_none, errW_some] <;> rfl), by repeat (first | (with_reducible first | exact HB.out | apply below_alloc | apply pw_below_drewN | apply below_drew1) | exact HB.out)⟩
                · rw [if_neg c14] at H
                  have c14b0 : decide ((rd t181 x5_1) < (rd t184 x5_1)) = false := decide_eq_false c14
                  clear c14
                  by_cases c15 : (rd t181 x5_1) > (rd t184 x5_1)
                  · rw [if_pos c15] at H
                    have c15b0 : decide ((rd t184 x5_1) < (rd t181 x5_1)) = true := decide_eq_true c15
                    clear c15
                    obtain rfl := Option.some.inj H
                    have p187 : 0 ≤ (x5_1 : Int) := of_decide_eq_true (by first | (with_reducible assumption) | assumption)
                    have q187 : x5_1 < (t181.length : Int) := of_decide_eq_true (by first | (with_reducible assumption) | assumption)
                    obtain ⟨ad187, e187, hx187_0⟩ := Kd.at_int (Kd.V_reads' HO_0.out).2.2 x5_1 p187 q187
                    cases e187
                    replace p187 := eq_true p187
                    replace q187 := eq_true q187
                    have p188 : 0 ≤ (x5_1 : Int) := of_decide_eq_true (by first | (with_reducible assumption) | assumption)
                    have q188 : x5_1 < (t184.length : Int) := of_decide_eq_true (by first | (with_reducible assumption) | assumption)
                    obtain ⟨ad188, e188, hx188_0⟩ := Kd.at_int (Kd.V_reads' HO_1.out).2.2 x5_1 p188 q188
                    cases e188
                    replace p188 := eq_true p188
                    replace q188 := eq_true q188
                    have p189 : 0 ≤ (x5_1 : Int) := of_decide_eq_true (by first | (with_reducible assumption) | assumption)
                    have q189 : x5_1 < (t181.length : Int) := of_decide_eq_true (by first | (with_reducible assumption) | assumption)
                    obtain ⟨ad189, e189, hx189_0⟩ := Kd.at_int (Kd.V_reads' HO_0.out).2.2 x5_1 p189 q189
                    obtain rfl : ad187 = ad189 := (by injection e189)
                    replace p189 := eq_true p189
                    replace q189 := eq_true q189
                    have p190 : 0 ≤ (x5_1 : Int) := of_decide_eq_true (by first | (with_reducible assumption) | assumption)
                    have q190 : x5_1 < (t184.length : Int) := of_decide_eq_true (by first | (with_reducible assumption) | assumption)
                    obtain ⟨ad190, e190, hx190_0⟩ := Kd.at_int (Kd.V_reads' HO_1.out).2.2 x5_1 p190 q190
                    obtain rfl : ad188 = ad190 := (by injection e190)
                    replace p190 := eq_true p190
                    replace q190 := eq_true q190
                    go_wp2
                    repeat (go_quiet (fail); try go_wp2)
                    go_ret
                    exact ⟨by first | rfl | (simp [errW_none, errW_some] <;> rfl) | (simp [*, errW_none, errW_some] <;> rfl), by repeat (first | (with_reducible first | exact HB.out | apply below_alloc | apply pw_below_drewN | apply below_drew1) | exact HB.out)⟩
                  · rw [if_neg c15] at H
                    have c15b0 : decide ((rd t184 x5_1) < (rd t181 x5_1)) = false := decide_eq_false c15
                    clear c15
                    have H' := Aside0.mk H
                    clear H
                    have p187 : 0 ≤ (x5_1 : Int) := of_decide_eq_true (by first | (with_reducible assumption) | assumption)
                    have q187 : x5_1 < (t181.length : Int) := of_decide_eq_true (by first | (with_reducible assumption) | assumption)
                    obtain ⟨ad187, e187, hx187_0⟩ := Kd.at_int (Kd.V_reads' HO_0.out).2.2 x5_1 p187 q187
                    cases e187
                    replace p187 := eq_true p187
                    replace q187 := eq_true q187
                    have p188 : 0 ≤ (x5_1 : Int) := of_decide_eq_true (by first | (with_reducible assumption) | assumption)
                    have q188 : x5_1 < (t184.length : Int) := of_decide_eq_true (by first | (with_reducible assumption) | assumption)
                    obtain ⟨ad188, e188, hx188_0⟩ := Kd.at_int (Kd.V_reads' HO_1.out).2.2 x5_1 p188 q188
                    cases e188
                    replace p188 := eq_true p188
                    replace q188 := eq_true q188
                    have p189 : 0 ≤ (x5_1 : Int) := of_decide_eq_true (by first | (with_reducible assumption) | assumption)
                    have q189 : x5_1 < (t181.length : Int) := of_decide_eq_true (by first | (with_reducible assumption) | assumption)
                    obtain ⟨ad189, e189, hx189_0⟩ := Kd.at_int (Kd.V_reads' HO_0.out).2.2 x5_1 p189 q189
                    obtain rfl : ad187 = ad189 := (by injection e189)
                    replace p189 := eq_true p189
                    replace q189 := eq_true q189
                    have p190 : 0 ≤ (x5_1 : Int) := of_decide_eq_true (by first | (with_reducible assumption) | assumption)
                    have q190 : x5_1 < (t184.length : Int) := of_decide_eq_true (by first | (with_reducible assumption) | assumption)
                    obtain ⟨ad190, e190, hx190_0⟩ := Kd.at_int (Kd.V_reads' HO_1.out).2.2 x5_1 p190 q190
                    obtain rfl : ad188 = ad190 := (by injection e190)
                    replace p190 := eq_true p190
                    replace q190 := eq_true q190
                    go_wp2
                    repeat (go_quiet (fail); try go_wp2)
                    go_roundg k1
                    case measure => have := HK1.out; omega
                    case rel => exact ⟨(wrap64 (x5_1 - 1)), (by first | rfl | (simp; done) | (simp [*]; done)), H', ⟨by have := HK1.out; omega⟩, ⟨by (with_reducible repeat (first | apply Kd.V_alloc | apply Kd.V_drewN | apply Kd.V_drew)); exact HO_0.out⟩, ⟨by (with_reducible repeat (first | apply Kd.V_alloc | apply Kd.V_drewN | apply Kd.V_drew)); exact HO_1.out⟩, ⟨by repeat (first | (with_reducible first | exact HB.out | apply below_alloc | apply pw_below_drewN | apply below_drew1) | exact HB.out)⟩⟩
              · rw [if_neg c13] at H
                exact absurd H (by simp)
            · rw [if_neg c12] at H
              exact absurd H (by simp)
          · rw [if_neg c11] at H
            exact absurd H (by simp)
        · rw [if_neg c10] at H
          have c10b0 : decide (0 ≤ x5_1) = false := decide_eq_false c10
          clear c10
          obtain rfl := Option.some.inj H
          go_wp2
          repeat (go_quiet (fail); try go_wp2)
          go_ret
          exact ⟨by first | rfl | (simp [errW_none, errW_some] <;> rfl) | (simp [*, errW_none, errW_some] <;> rfl), by repeat (first | (with_reducible first | exact HB.out | apply below_alloc | apply pw_below_drewN | apply below_drew1) | exact HB.out)⟩
  · rw [if_neg c5] at H
    have c5b0 : ((t181.length : Int) == (t184.length : Int)) = false := beq_eq_false_iff_ne.mpr c5
    have c5b1 : ((t181.length : Int) != (t184.length : Int)) = true := bne_iff_ne.mpr c5
    have c5b2 : (t181.length == t184.length) = false := by first | simpa using c5 | (simp at c5 ⊢; omega)
    by_cases c16 : (t181.length : Int) < (t184.length : Int)
    · rw [if_pos c16] at H
      have c16b0 : decide ((t181.length : Int) < (t184.length : Int)) = true := decide_eq_true c16
      have c16b1 : decide (t181.length < t184.length) = true := decide_eq_true (Int.ofNat_lt.mp c16)
      clear c16
      obtain rfl := Option.some.inj H
      go_enter Try.func70, Try.ntmps70
      go_wp2_with (first | (go_at_call 83; (with_reducible refine (limb_trim.calls k (fun k_ => k_ < w.heap.size) _ _ l0 t181 _ ?side1 A3.out).mono ?_); (case side1 => exact Kd.V_mk HC0.out (Kd.F_below (Kd.C_F (Kd.heap_int .u64) HR0.out) (by repeat (first | (with_reducible first | exact HB.out | apply below_alloc | apply pw_below_drewN | apply below_drew1) | exact HB.out)))); rintro e w17 ⟨v182, rfl, ho0, hb⟩; have n0_ := Aside0.mk (Kd.V_lower (Kd.V_mono (ok' := fun k_ => True) ho0 (fun k_ hk_ => trivial)) (below_size (by repeat (first | (with_reducible first | exact HB.out | apply below_alloc | apply pw_below_drewN | apply below_drew1) | exact HB.out)))); have n1_ := Aside0.mk (below_step (by repeat (first | (with_reducible first | exact HB.out | apply below_alloc | apply pw_below_drewN | apply below_drew1) | exact HB.out)) hb); clear HB; have HO183 := n0_; have HB := n1_; clear n0_ n1_; (try clear hb); (try clear hb2); (try clear hk); (try clear hi); (try clear ho0)) | (go_at_call 83; (with_reducible refine (limb_trim.calls k (fun k_ => k_ < w.heap.size) _ _ l1 t184 _ ?side1 A4.out).mono ?_); (case side1 => exact Kd.V_mk HC1.out (Kd.F_below (Kd.C_F (Kd.heap_int .u64) HR1.out) (by repeat (first | (with_reducible first | exact HB.out | apply below_alloc | apply pw_below_drewN | apply below_drew1) | exact HB.out)))); rintro e w18 ⟨v185, rfl, ho0, hb⟩; have n0_ := Aside0.mk (Kd.V_below (by (with_reducible repeat (first | apply Kd.V_alloc | apply Kd.V_drewN | apply Kd.V_drew)); exact HO183.out) hb); have n1_ := Aside0.mk (Kd.V_lower (Kd.V_mono (ok' := fun k_ => True) ho0 (fun k_ hk_ => trivial)) (below_size (by repeat (first | (with_reducible first | exact HB.out | apply below_alloc | apply pw_below_drewN | apply below_drew1) | exact HB.out)))); have n2_ := Aside0.mk (below_step (by repeat (first | (with_reducible first | exact HB.out | apply below_alloc | apply pw_below_drewN | apply below_drew1) | exact HB.out)) hb); clear HO183; clear HB; have HO183 := n0_; have HO186 := n1_; have HB := n2_; clear n0_ n1_ n2_; (try clear hb); (try clear hb2); (try clear hk); (try clear hi); (try clear ho0); obtain ⟨Ao19, co19, eo19⟩ := Kd.V_slice HO183.out; subst eo19; obtain ⟨Ao20, co20, eo20⟩ := Kd.V_slice HO186.out; subst eo20))
      repeat (go_quiet (first | (go_at_call 83; (with_reducible refine (limb_trim.calls k (fun k_ => k_ < w.heap.size) _ _ l0 t181 _ ?side1 A3.out).mono ?_); (case side1 => exact Kd.V_mk HC0.out (Kd.F_below (Kd.C_F (Kd.heap_int .u64) HR0.out) (by repeat (first | (with_reducible first | exact HB.out | apply below_alloc | apply pw_below_drewN | apply below_drew1) | exact HB.out)))); rintro e w17 ⟨v182, rfl, ho0, hb⟩; have n0_ := Aside0.mk (Kd.V_lower (Kd.V_mono (ok' := fun k_ => True) ho0 (fun k_ hk_ => trivial)) (below_size (by repeat (first | (with_reducible first | exact HB.out | apply below_alloc | apply pw_below_drewN | apply below_drew1) | exact HB.out)))); have n1_ := Aside0.mk (below_step (by repeat (first | (with_reducible first | exact HB.out | apply below_alloc | apply pw_below_drewN | apply below_drew1) | exact HB.out)) hb); clear HB; have HO183 := n0_; have HB := n1_; clear n0_ n1_; (try clear hb); (try clear hb2); (try clear hk); (try clear hi); (try clear ho0)) | (go_at_call 83; (with_reducible refine (limb_trim.calls k (fun k_ => k_ < w.heap.size) _ _ l1 t184 _ ?side1 A4.out).mono ?_); (case side1 => exact Kd.V_mk HC1.out (Kd.F_below (Kd.C_F (Kd.heap_int .u64) HR1.out) (by repeat (first | (with_reducible first | exact HB.out | apply below_alloc | apply pw_below_drewN | apply below_drew1) | exact HB.out)))); rintro e w18 ⟨v185, rfl, ho0, hb⟩; have n0_ := Aside0.mk (Kd.V_below (by (with_reducible repeat (first | apply Kd.V_alloc | apply Kd.V_drewN | apply Kd.V_drew)); exact HO183.out) hb); have n1_ := Aside0.mk (Kd.V_lower (Kd.V_mono (ok' := fun k_ => True) ho0 (fun k_ hk_ => trivial)) (below_size (by repeat (first | (with_reducible first | exact HB.out | apply below_alloc | apply pw_below_drewN | apply below_drew1) | exact HB.out)))); have n2_ := Aside0.mk (below_step (by repeat (first | (with_reducible first | exact HB.out | apply below_alloc | apply pw_below_drewN | apply below_drew1) | exact HB.out)) hb); clear HO183; clear HB; have HO183 := n0_; have HO186 := n1_; have HB := n2_; clear n0_ n1_ n2_; (try clear hb); (try clear hb2); (try clear hk); (try clear hi); (try clear ho0); obtain ⟨Ao19, co19, eo19⟩ := Kd.V_slice HO183.out; subst eo19; obtain ⟨Ao20, co20, eo20⟩ := Kd.V_slice HO186.out; subst eo20)); try go_wp2_with (first | (go_at_call 83; (with_reducible refine (limb_trim.calls k (fun k_ => k_ < w.heap.size) _ _ l0 t181 _ ?side1 A3.out).mono ?_); (case side1 => exact Kd.V_mk HC0.out (Kd.F_below (Kd.C_F (Kd.heap_int .u64) HR0.out) (by repeat (first | (with_reducible first | exact HB.out | apply below_alloc | apply pw_below_drewN | apply below_drew1) | exact HB.out)))); rintro e w17 ⟨v182, rfl, ho0, hb⟩; have n0_ := Aside0.mk (Kd.V_lower (Kd.V_mono (ok' := fun k_ => True) ho0 (fun k_ hk_ => trivial)) (below_size (by repeat (first | (with_reducible first | exact HB.out | apply below_alloc | apply pw_below_drewN | apply below_drew1) | exact HB.out)))); have n1_ := Aside0.mk (below_step (by repeat (first | (with_reducible first | exact HB.out | apply below_alloc | apply pw_below_drewN | apply below_drew1) | exact HB.out)) hb); clear HB; have HO183 := n0_; have HB := n1_; clear n0_ n1_; (try clear hb); (try clear hb2); (try clear hk); (try clear hi); (try clear ho0)) | (go_at_call 83; (with_reducible refine (limb_trim.calls k (fun k_ => k_ < w.heap.size) _ _ l1 t184 _ ?side1 A4.out).mono ?_); (case side1 => exact Kd.V_mk HC1.out (Kd.F_below (Kd.C_F (Kd.heap_int .u64) HR1.out) (by repeat (first | (with_reducible first | exact HB.out | apply below_alloc | apply pw_below_drewN | apply below_drew1) | exact HB.out)))); rintro e w18 ⟨v185, rfl, ho0, hb⟩; have n0_ := Aside0.mk (Kd.V_below (by (with_reducible repeat (first | apply Kd.V_alloc | apply Kd.V_drewN | apply Kd.V_drew)); exact HO183.out) hb); have n1_ := Aside0.mk (Kd.V_lower (Kd.V_mono (ok' := fun k_ => True) ho0 (fun k_ hk_ => trivial)) (below_size (by repeat (first | (with_reducible first | exact HB.out | apply below_alloc | apply pw_below_drewN | apply below_drew1) | exact HB.out)))); have n2_ := Aside0.mk (below_step (by repeat (first | (with_reducible first | exact HB.out | apply below_alloc | apply pw_below_drewN | apply below_drew1) | exact HB.out)) hb); clear HO183; clear HB; have HO183 := n0_; have HO186 := n1_; have HB := n2_; clear n0_ n1_ n2_; (try clear hb); (try clear hb2); (try clear hk); (try clear hi); (try clear ho0); obtain ⟨Ao19, co19, eo19⟩ := Kd.V_slice HO183.out; subst eo19; obtain ⟨Ao20, co20, eo20⟩ := Kd.V_slice HO186.out; subst eo20)))
      go_ret
      exact ⟨by first | rfl | (simp [errW_none, errW_some] <;> rfl) | (simp [*, errW_none, errW_some] <;> rfl), by repeat (first | (with_reducible first | exact HB.out | apply below_alloc | apply pw_below_drewN | apply below_drew1) | exact HB.out)⟩
    · rw [if_neg c16] at H
      have c16b0 : decide ((t181.length : Int) < (t184.length : Int)) = false := decide_eq_false c16
      have c16b1 : decide (t181.length < t184.length) = false := decide_eq_false (fun h => c16 (Int.ofNat_lt.mpr h))
      clear c16
      obtain rfl := Option.some.inj H
      go_enter Try.func70, Try.ntmps70
      go_wp2_with (first | (go_at_call 83; (with_reducible refine (limb_trim.calls k (fun k_ => k_ < w.heap.size) _ _ l0 t181 _ ?side1 A3.out).mono ?_); (case side1 => exact Kd.V_mk HC0.out (Kd.F_below (Kd.C_F (Kd.heap_int .u64) HR0.out) (by repeat (first | (with_reducible first | exact HB.out | apply below_alloc | apply pw_below_drewN | apply below_drew1) | exact HB.out)))); rintro e w21 ⟨v182, rfl, ho0, hb⟩; have n0_ := Aside0.mk (Kd.V_lower (Kd.V_mono (ok' := fun k_ => True) ho0 (fun k_ hk_ => trivial)) (below_size (by repeat (first | (with_reducible first | exact HB.out | apply below_alloc | apply pw_below_drewN | apply below_drew1) | exact HB.out)))); have n1_ := Aside0.mk (below_step (by repeat (first | (with_reducible first | exact HB.out | apply below_alloc | apply pw_below_drewN | apply below_drew1) | exact HB.out)) hb); clear HB; have HO183 := n0_; have HB := n1_; clear n0_ n1_; (try clear hb); (try clear hb2); (try clear hk); (try clear hi); (try clear ho0)) | (go_at_call 83; (with_reducible refine (limb_trim.calls k (fun k_ => k_ < w.heap.size) _ _ l1 t184 _ ?side1 A4.out).mono ?_); (case side1 => exact Kd.V_mk HC1.out (Kd.F_below (Kd.C_F (Kd.heap_int .u64) HR1.out) (by repeat (first | (with_reducible first | exact HB.out | apply below_alloc | apply pw_below_drewN | apply below_drew1) | exact HB.out)))); rintro e w22 ⟨v185, rfl, ho0, hb⟩; have n0_ := Aside0.mk (Kd.V_below (by (with_reducible repeat (first | apply Kd.V_alloc | apply Kd.V_drewN | apply Kd.V_drew)); exact HO183.out) hb); have n1_ := Aside0.mk (Kd.V_lower (Kd.V_mono (ok' := fun k_ => True) ho0 (fun k_ hk_ => trivial)) (below_size (by repeat (first | (with_reducible first | exact HB.out | apply below_alloc | apply pw_below_drewN | apply below_drew1) | exact HB.out)))); have n2_ := Aside0.mk (below_step (by repeat (first | (with_reducible first | exact HB.out | apply below_alloc | apply pw_below_drewN | apply below_drew1) | exact HB.out)) hb); clear HO183; clear HB; have HO183 := n0_; have HO186 := n1_; have HB := n2_; clear n0_ n1_ n2_; (try clear hb); (try clear hb2); (try clear hk); (try clear hi); (try clear ho0); obtain ⟨Ao23, co23, eo23⟩ := Kd.V_slice HO183.out; subst eo23; obtain ⟨Ao24, co24, eo24⟩ := Kd.V_slice HO186.out; subst eo24))
      repeat (go_quiet (first | (go_at_call 83; (with_reducible refine (limb_trim.calls k (fun k_ => k_ < w.heap.size) _ _ l0 t181 _ ?side1 A3.out).mono ?_); (case side1 => exact Kd.V_mk HC0.out (Kd.F_below (Kd.C_F (Kd.heap_int .u64) HR0.out) (by repeat (first | (with_reducible first | exact HB.out | apply below_alloc | apply pw_below_drewN | apply below_drew1) | exact HB.out)))); rintro e w21 ⟨v182, rfl, ho0, hb⟩; have n0_ := Aside0.mk (Kd.V_lower (Kd.V_mono (ok' := fun k_ => True) ho0 (fun k_ hk_ => trivial)) (below_size (by repeat (first | (with_reducible first | exact HB.out | apply below_alloc | apply pw_below_drewN | apply below_drew1) | exact HB.out)))); have n1_ := Aside0.mk (below_step (by repeat (first | (with_reducible first | exact HB.out | apply below_alloc | apply pw_below_drewN | apply below_drew1) | exact HB.out)) hb); clear HB; have HO183 := n0_; have HB := n1_; clear n0_ n1_; (try clear hb); (try clear hb2); (try clear hk); (try clear hi); (try clear ho0)) | (go_at_call 83; (with_reducible refine (limb_trim.calls k (fun k_ => k_ < w.heap.size) _ _ l1 t184 _ ?side1 A4.out).mono ?_); (case side1 => exact Kd.V_mk HC1.out (Kd.F_below (Kd.C_F (Kd.heap_int .u64) HR1.out) (by repeat (first | (with_reducible first | exact HB.out | apply below_alloc | apply pw_below_drewN | apply below_drew1) | exact HB.out)))); rintro e w22 ⟨v185, rfl, ho0, hb⟩; have n0_ := Aside0.mk (Kd.V_below (by (with_reducible repeat (first | apply Kd.V_alloc | apply Kd.V_drewN | apply Kd.V_drew)); exact HO183.out) hb); have n1_ := Aside0.mk (Kd.V_lower (Kd.V_mono (ok' := fun k_ => True) ho0 (fun k_ hk_ => trivial)) (below_size (by repeat (first | (with_reducible first | exact HB.out | apply below_alloc | apply pw_below_drewN | apply below_drew1) | exact HB.out)))); have n2_ := Aside0.mk (below_step (by repeat (first | (with_reducible first | exact HB.out | apply below_alloc | apply pw_below_drewN | apply below_drew1) | exact HB.out)) hb); clear HO183; clear HB; have HO183 := n0_; have HO186 := n1_; have HB := n2_; clear n0_ n1_ n2_; (try clear hb); (try clear hb2); (try clear hk); (try clear hi); (try clear ho0); obtain ⟨Ao23, co23, eo23⟩ := Kd.V_slice HO183.out; subst eo23; obtain ⟨Ao24, co24, eo24⟩ := Kd.V_slice HO186.out; subst eo24)); try go_wp2_with (first | (go_at_call 83; (with_reducible refine (limb_trim.calls k (fun k_ => k_ < w.heap.size) _ _ l0 t181 _ ?side1 A3.out).mono ?_); (case side1 => exact Kd.V_mk HC0.out (Kd.F_below (Kd.C_F (Kd.heap_int .u64) HR0.out) (by repeat (first | (with_reducible first | exact HB.out | apply below_alloc | apply pw_below_drewN | apply below_drew1) | exact HB.out)))); rintro e w21 ⟨v182, rfl, ho0, hb⟩; have n0_ := Aside0.mk (Kd.V_lower (Kd.V_mono (ok' := fun k_ => True) ho0 (fun k_ hk_ => trivial)) (below_size (by repeat (first | (with_reducible first | exact HB.out | apply below_alloc | apply pw_below_drewN | apply below_drew1) | exact HB.out)))); have n1_ := Aside0.mk (below_step (by repeat (first | (with_reducible first | exact HB.out | apply below_alloc | apply pw_below_drewN | apply below_drew1) | exact HB.out)) hb); clear HB; have HO183 := n0_; have HB := n1_; clear n0_ n1_; (try clear hb); (try clear hb2); (try clear hk); (try clear hi); (try clear ho0)) | (go_at_call 83; (with_reducible refine (limb_trim.calls k (fun k_ => k_ < w.heap.size) _ _ l1 t184 _ ?side1 A4.out).mono ?_); (case side1 => exact Kd.V_mk HC1.out (Kd.F_below (Kd.C_F (Kd.heap_int .u64) HR1.out) (by repeat (first | (with_reducible first | exact HB.out | apply below_alloc | apply pw_below_drewN | apply below_drew1) | exact HB.out)))); rintro e w22 ⟨v185, rfl, ho0, hb⟩; have n0_ := Aside0.mk (Kd.V_below (by (with_reducible repeat (first | apply Kd.V_alloc | apply Kd.V_drewN | apply Kd.V_drew)); exact HO183.out) hb); have n1_ := Aside0.mk (Kd.V_lower (Kd.V_mono (ok' := fun k_ => True) ho0 (fun k_ hk_ => trivial)) (below_size (by repeat (first | (with_reducible first | exact HB.out | apply below_alloc | apply pw_below_drewN | apply below_drew1) | exact HB.out)))); have n2_ := Aside0.mk (below_step (by repeat (first | (with_reducible first | exact HB.out | apply below_alloc | apply pw_below_drewN | apply below_drew1) | exact HB.out)) hb); clear HO183; clear HB; have HO183 := n0_; have HO186 := n1_; have HB := n2_; clear n0_ n1_ n2_; (try clear hb); (try clear hb2); (try clear hk); (try clear hi); (try clear ho0); obtain ⟨Ao23, co23, eo23⟩ := Kd.V_slice HO183.out; subst eo23; obtain ⟨Ao24, co24, eo24⟩ := Kd.V_slice HO186.out; subst eo24)))
      go_ret
      exact ⟨by first | rfl | (simp [errW_none, errW_some] <;> rfl) | (simp [*, errW_none, errW_some] <;> rfl), by repeat (first | (with_reducible first | exact HB.out | apply below_alloc | apply pw_below_drewN | apply below_drew1) | exact HB.out)⟩

-- NOT PRINTED: function 88 (bits_Sub64)

-- NOT PRINTED: function 87 (limb_Sub_1)

/-! ### limb_Sub: function 68 -/
set_option maxHeartbeats 4000000 in
set_option maxRecDepth 100000 in
theorem limb_Sub.cl (gx gc ga i n cap : Nat) (y a b : Int) (w : World) (hx : w.cell? ⟨gx, 0, none⟩ = some (.slice (some ⟨ga, 0, none⟩) n cap)) (hc : w.cell? ⟨gc, 0, none⟩ = some (.int .u64 b)) (ha : w.cell? ⟨ga, i, none⟩ = some (.int .u64 a))
    (hne : gc ≠ ga) (fa : w.frozen? ⟨ga, i, none⟩ = false) (fc : w.frozen? ⟨gc, 0, none⟩ = false) (hi : (i : Int) < (n : Int)) (hb : decide (b ≤ 1) = true) :
    Calls Try.prog 87 #[.int .i64 i, .int .u64 y, .pointer (some ⟨gx, 0, none⟩), .pointer (some ⟨gc, 0, none⟩)] w fun e w' => e = .returned (.tuple #[]) ∧ w' = ((w.setCell ⟨ga, i, none⟩ (.int .u64 (sb64 a y b))).setCell ⟨gc, 0, none⟩ (.int .u64 (bb64 a y b))).drew := by
  rw [← World.setCell_drew, ← World.setCell_drew]
  have hi0 : 0 ≤ (i : Int) := by omega
  have fa' : w.drew.frozen? ⟨ga, i, none⟩ = false := fa
  have fc' : w.drew.frozen? ⟨gc, 0, none⟩ = false := fc
  have hx' : w.drew.cell? ⟨gx, 0, none⟩ = some (.slice (some ⟨ga, 0, none⟩) n cap) := hx
  have ha' : w.drew.cell? ⟨ga, i, none⟩ = some (.int .u64 a) := ha
  have hc' : w.drew.cell? ⟨gc, 0, none⟩ = some (.int .u64 b) := hc
  clear fa fc hx ha hc
  go_enter Try.func87, Try.ntmps87
  refine start_ (n := 15) (S := fun w' => w'.cell? ⟨gx, 0, none⟩ = some (.slice (some ⟨ga, 0, none⟩) n cap) ∧ w'.cell? ⟨ga, i, none⟩ = some (.int .u64 a) ∧ w'.cell? ⟨gc, 0, none⟩ = some (.int .u64 b)) (ds := [13, 14]) #[false, false, false, false, false, false, false, false, false, false, false, false, false, false, false] (by kernel_rfl) rfl rfl ⟨hx', ha', hc'⟩ (fun hHeld => ?_)
  generalize w.drew = w1 at fa' fc' hx' ha' hc' hHeld ⊢
  refine pure_ (i := 1) (N := some 8) (v := ?_) (a' := ?_) #[false, true, false, false, false, false, false, false, false, false, false, false, false, false, false] rfl rfl (by kernel_rfl) (fun _ _ _ h => h) (Or.inl ⟨by rfl, ?_⟩) ?_ ?_
  rotate_left
  · intro w'
    go_simp
    with_reducible rfl
  rotate_left
  · simp only [Act.put, List.setIfInBounds_toArray, List.set_cons_zero, List.set_cons_succ, i64_w, i32_w]
    rfl
  refine pure_ (i := 3) (N := some 10) (v := ?_) (a' := ?_) #[false, true, false, true, false, false, false, false, false, false, false, false, false, false, false] rfl rfl (by kernel_rfl) (fun _ _ _ h => h) (Or.inl ⟨by rfl, ?_⟩) ?_ ?_
  rotate_left
  · intro w'
    go_simp
    with_reducible rfl
  rotate_left
  · simp only [Act.put, List.setIfInBounds_toArray, List.set_cons_zero, List.set_cons_succ, i64_w, i32_w]
    rfl
  refine pure_ (i := 6) (N := some 13) (v := ?_) (a' := ?_) #[false, true, false, true, false, false, true, false, false, false, false, false, false, false, false] rfl rfl (by kernel_rfl) (fun _ _ _ h => h) (Or.inl ⟨by rfl, ?_⟩) ?_ ?_
  rotate_left
  · intro w'
    go_simp
    with_reducible rfl
  rotate_left
  · simp only [Act.put, List.setIfInBounds_toArray, List.set_cons_zero, List.set_cons_succ, i64_w, i32_w]
    rfl
  refine take_ (i := 0) (N := some 7) (v := ?_) (a' := ?_) #[true, true, false, true, false, false, true, false, false, false, false, false, false, false, false] rfl rfl (by kernel_rfl) (fun _ _ _ h => h) (Or.inl ⟨by rfl, ?_⟩) hHeld ?_ ?_
  rotate_left
  · rintro w' ⟨s0, s1, s2⟩
    go_simp
    with_reducible rfl
  rotate_left
  · simp only [Act.put, List.setIfInBounds_toArray, List.set_cons_zero, List.set_cons_succ, i64_w, i32_w]
    rfl
  refine take_ (i := 2) (N := some 9) (v := ?_) (a' := ?_) #[true, true, true, true, false, false, true, false, false, false, false, false, false, false, false] rfl rfl (by kernel_rfl) (fun _ _ _ h => h) (Or.inl ⟨by rfl, ?_⟩) hHeld ?_ ?_
  rotate_left
  · rintro w' ⟨s0, s1, s2⟩
    go_simp
    with_reducible rfl
  rotate_left
  · simp only [Act.put, List.setIfInBounds_toArray, List.set_cons_zero, List.set_cons_succ, i64_w, i32_w]
    rfl
  refine pure_ (i := 4) (N := some 11) (v := ?_) (a' := ?_) #[true, true, true, true, true, false, true, false, false, false, false, false, false, false, false] rfl rfl (by kernel_rfl) (fun _ _ _ h => h) (Or.inl ⟨by rfl, ?_⟩) ?_ ?_
  rotate_left
  · intro w'
    go_simp
    with_reducible rfl
  rotate_left
  · simp only [Act.put, List.setIfInBounds_toArray, List.set_cons_zero, List.set_cons_succ, i64_w, i32_w]
    rfl
  refine take_ (i := 5) (N := some 12) (v := ?_) (a' := ?_) #[true, true, true, true, true, true, true, false, false, false, false, false, false, false, false] rfl rfl (by kernel_rfl) (fun _ _ _ h => h) (Or.inl ⟨by rfl, ?_⟩) hHeld ?_ ?_
  rotate_left
  · rintro w' ⟨s0, s1, s2⟩
    go_simp
    with_reducible rfl
  rotate_left
  · simp only [Act.put, List.setIfInBounds_toArray, List.set_cons_zero, List.set_cons_succ, i64_w, i32_w]
    rfl
  refine take_ (i := 7) (N := some 14) (v := ?_) (a' := ?_) #[true, true, true, true, true, true, true, true, false, false, false, false, false, false, false] rfl rfl (by kernel_rfl) (fun _ _ _ h => h) (Or.inl ⟨by rfl, ?_⟩) hHeld ?_ ?_
  rotate_left
  · rintro w' ⟨s0, s1, s2⟩
    go_simp
    with_reducible rfl
  rotate_left
  · simp only [Act.put, List.setIfInBounds_toArray, List.set_cons_zero, List.set_cons_succ, i64_w, i32_w]
    rfl
  refine pure_ (i := 8) (N := some 15) (v := ?_) (a' := ?_) #[true, true, true, true, true, true, true, true, true, false, false, false, false, false, false] rfl rfl (by kernel_rfl) (fun _ _ _ h => h) (Or.inl ⟨by rfl, ?_⟩) ?_ ?_
  rotate_left
  · intro w'
    go_simp
    with_reducible rfl
  rotate_left
  · simp only [Act.put, List.setIfInBounds_toArray, List.set_cons_zero, List.set_cons_succ, i64_w, i32_w]
    rfl
  refine pure_ (i := 9) (N := some 6) (v := ?_) (a' := ?_) #[true, true, true, true, true, true, true, true, true, true, false, false, false, false, false] rfl rfl (by kernel_rfl) (fun _ _ _ h => h) (Or.inl ⟨by rfl, ?_⟩) ?_ ?_
  rotate_left
  · intro w'
    go_simp
    with_reducible rfl
  rotate_left
  · simp only [Act.put, List.setIfInBounds_toArray, List.set_cons_zero, List.set_cons_succ, i64_w, i32_w]
    rfl
  refine pure_ (i := 10) (N := some 16) (v := ?_) (a' := ?_) #[true, true, true, true, true, true, true, true, true, true, true, false, false, false, false] rfl rfl (by kernel_rfl) (fun _ _ _ h => h) (Or.inl ⟨by rfl, ?_⟩) ?_ ?_
  rotate_left
  · intro w'
    go_simp
    with_reducible rfl
  rotate_left
  · simp only [Act.put, List.setIfInBounds_toArray, List.set_cons_zero, List.set_cons_succ, i64_w, i32_w]
    rfl
  refine pure_ (i := 11) (N := some 17) (v := ?_) (a' := ?_) #[true, true, true, true, true, true, true, true, true, true, true, true, false, false, false] rfl rfl (by kernel_rfl) (fun _ _ _ h => h) (Or.inl ⟨by rfl, ?_⟩) ?_ ?_
  rotate_left
  · intro w'
    go_simp
    with_reducible rfl
  rotate_left
  · simp only [Act.put, List.setIfInBounds_toArray, List.set_cons_zero, List.set_cons_succ, i64_w, i32_w]
    rfl
  refine pure_ (i := 12) (N := some 18) (v := ?_) (a' := ?_) #[true, true, true, true, true, true, true, true, true, true, true, true, true, false, false] rfl rfl (by kernel_rfl) (fun _ _ _ h => h) (Or.inl ⟨by rfl, ?_⟩) ?_ ?_
  rotate_left
  · intro w'
    go_simp
    with_reducible rfl
  rotate_left
  · simp only [Act.put, List.setIfInBounds_toArray, List.set_cons_zero, List.set_cons_succ, i64_w, i32_w]
    rfl
  refine last_ (i := 13) (N := none) #[true, true, true, true, true, true, true, true, true, true, true, true, true, true, false] rfl rfl (by kernel_rfl) (by decide) (fun K hK => ?_)
  refine skip_ (w1 := ?_) (by rfl) rfl ?_ ?_
  rotate_left
  · go_simp
    rfl
  refine hK.out _ _ ?_
  clear hK K
  refine last_ (i := 14) (N := none) #[true, true, true, true, true, true, true, true, true, true, true, true, true, true, true] rfl rfl (by kernel_rfl) (by decide) (fun K hK => ?_)
  refine skip_ (w1 := ?_) (by rfl) rfl ?_ ?_
  rotate_left
  · go_simp
    rfl
  refine hK.out _ _ ?_
  clear hK K
  refine done_ (by kernel_rfl) ?_
  go_wp2
  go_end0
  exact ⟨rfl, rfl⟩

/-- The loop: from place i on, d limbs are still to come. -/
def limb_Sub.l0 : Nat → List Int → List Int → Int → Nat → List Int
  | 0, x, _, _, _ => x
  | d + 1, x, b, c, i => limb_Sub.l0 d (x.set i (sb64 (x.getD i 0) (b.getD i 0) c)) b (bb64 (x.getD i 0) (b.getD i 0) c) (i + 1)
def limb_Sub.f (k : Nat) (l0 l1 : List Int) : Option (List Int × Bool) := (limb_Cmp.f k l0 l1).bind fun t => if t < 0 then some ([], false) else (limb_Trim.f k l0).bind fun x => (limb_trim.f k (limb_Sub.l0 x.length x l1 0 0)).bind fun r => some (r, true)
theorem limb_Sub.mono : ∀ a0 a1 k, LeO (limb_Sub.f k a0 a1) (limb_Sub.f (k + 1) a0 a1) := by
  intro a0 a1 k
  unfold limb_Sub.f
  exact LeO.bind (limb_Cmp.mono _ _ _) fun _ => LeO.ite (LeO.refl _) (LeO.bind (limb_Trim.mono _ _) fun _ => LeO.bind (limb_trim.mono _ _) fun _ => LeO.refl _)
theorem bb64_le (x y b : Int) : decide (bb64 x y b ≤ 1) = true := by
  unfold bb64; split <;> decide
set_option maxHeartbeats 8000000 in
set_option maxRecDepth 100000 in
theorem limb_Sub.calls (k : Nat) (A0 : Option Addr) (c0 : Nat) (l0 : List Int) (A1 : Option Addr) (c1 : Nat) (l1 : List Int) (r1 : List Int) (r2 : Bool) (w : World) (hr0 : Kd.C (Kd.int .u64) w A0 l0.length l0) (hc0 : l0.length ≤ c0) (hr1 : Kd.C (Kd.int .u64) w A1 l1.length l1) (hc1 : l1.length ≤ c1) (h : limb_Sub.f k l0 l1 = some (r1, r2)) :
    Calls Try.prog 68 #[.slice A0 l0.length c0, .slice A1 l1.length c1] w fun e w' => ∃ v0_ : Value, e = .returned (.tuple #[v0_, .bool r2]) ∧ Kd.R (Kd.int .u64) 50 w' w.heap.size (fun _ => True) v0_ r1 ∧ Below w.heap.size w w' := by
  have HR0 := Aside0.mk hr0
  have HC0 := Aside0.mk hc0
  have HR1 := Aside0.mk hr1
  have HC1 := Aside0.mk hc1
  clear hr0 hc0 hr1 hc1
  unfold limb_Sub.f at h
  obtain ⟨t, ht, h⟩ := Option.bind_eq_some_iff.mp h
  have HT := Aside0.mk ht
  clear ht
  by_cases hneg : t < 0
  · rw [if_pos hneg] at h
    have c4b0 : decide (t < 0) = true := decide_eq_true hneg
    clear hneg
    simp only [Option.some.injEq, Prod.mk.injEq] at h
    obtain ⟨rfl, rfl⟩ := h
    go_enter Try.func68, Try.ntmps68
    go_wp2_with (go_at_call 70; (with_reducible refine (limb_Cmp.calls k _ _ l0 _ _ l1 t _ HR0.out HC0.out HR1.out HC1.out HT.out).mono ?_); rintro e w1 ⟨rfl, hb⟩; have HB := Aside0.mk hb; clear hb)
    go_ret2
    exact ⟨_, rfl, Kd.R_nil _ _ _ _ _, HB.out⟩
  · rw [if_neg hneg] at h
    have c4b0 : decide (t < 0) = false := decide_eq_false hneg
    clear hneg
    obtain ⟨x, hx, h⟩ := Option.bind_eq_some_iff.mp h
    obtain ⟨r, hr, h⟩ := Option.bind_eq_some_iff.mp h
    have HX := Aside0.mk hx
    have HR := Aside0.mk hr
    clear hx hr
    simp only [Option.some.injEq, Prod.mk.injEq] at h
    obtain ⟨rfl, rfl⟩ := h
    go_enter Try.func68, Try.ntmps68
    go_wp2_with (go_at_call 70; (with_reducible refine (limb_Cmp.calls k _ _ l0 _ _ l1 t _ HR0.out HC0.out HR1.out HC1.out HT.out).mono ?_); rintro e w1 ⟨rfl, hb⟩; have HB := Aside0.mk hb; clear hb)
    refine (limb_Trim.calls k _ _ l0 x _ (Kd.C_below HR0.out HB.out) HC0.out HX.out).mono ?_
    rintro e w2 ⟨v, rfl, ho, hb⟩
    obtain ⟨Ax, cx, ev⟩ := Kd.R_slice ho
    subst ev
    have HB2 := Aside0.mk (below_step HB.out hb)
    have HB1 := HB
    have HO := Aside0.mk ho
    clear HB ho hb
    go_wp2_with fail
    go_loopg [19] x.length (fun kq v19 wr => ∃ (i : Nat) (xs : List Int) (c : Int), v19 = .int .i64 i ∧ Aside0 (i + kq = x.length) ∧ Aside0 (limb_Sub.l0 kq xs l1 c i = limb_Sub.l0 x.length x l1 0 0) ∧ Aside0 (decide (c ≤ 1) = true) ∧ Aside0 (wr.heap[w2.heap.size]? = some (.cells #[.slice Ax x.length cx] 36 (0, 0))) ∧ Aside0 (wr.heap[w2.heap.size + 1]? = some (.cells #[.int .u64 c] 50 (0, 0))) ∧ Aside0 (Kd.R (Kd.int .u64) 50 wr w.heap.size (fun k_ => k_ < w2.heap.size) (.slice Ax x.length cx) xs) ∧ Aside0 (Below w.heap.size w wr))
    case atStart =>
      refine ⟨0, x, 0, rfl, ⟨by omega⟩, ⟨rfl⟩, ⟨by decide⟩, ⟨blk_alloc (blk_new w2 _) _⟩, ⟨?_⟩, ⟨?_⟩, ⟨below_alloc (below_alloc HB2.out _) _⟩⟩
      · have h_ := blk_new (w2.alloc (.cells #[.slice Ax x.length cx] 36)) (.cells #[.int .u64 0] 50)
        simpa using h_
      · refine Kd.R_alloc (Kd.R_alloc (Kd.R_mono (Kd.R_bound (Kd.R_lower HO.out (below_size HB1.out))) (fun k_ hk => hk.2.2.1)) _) _
    case round =>
      obtain ⟨i, xs, c, rfl, HI, HS, HC, HX1, HX2, HO1, HB3⟩ := hrel
      have hcx : wr.cell? ⟨w2.heap.size, 0, none⟩ = some (.slice Ax x.length cx) := (blk_cell HX1.out 0).trans rfl
      cases gk with
      | zero =>
        obtain rfl : i = x.length := by have := HI.out; omega
        have hxl : xs.length = x.length := (Kd.R_reads' HO1.out).1.symm
        have hs := HS.out
        simp only [limb_Sub.l0] at hs
        have HR' := Aside0.mk (show limb_trim.f k xs = some r from hs ▸ HR.out)
        have HO2 := HO1.out
        rw [← hxl] at HO2
        have HO3 := Aside0.mk HO2
        have HXL := Aside0.mk hxl
        clear hxl hs HO2
        go_wp2_with fail
        rw [← HXL.out]
        refine (limb_trim.own k _ _ _ _ xs r _ HO3.out HR'.out).mono ?_
        rintro e w3 ⟨v, rfl, ho, hb⟩
        have HO4 := Aside0.mk ho
        have HB4 := Aside0.mk (below_step HB3.out hb)
        clear ho hb
        go_wp2
        go_ret2
        exact ⟨_, rfl, Kd.R_mono HO4.out (fun _ _ => trivial), HB4.out⟩
      | succ d =>
        have hilt : i < x.length := by have := HI.out; omega
        have hxl : xs.length = x.length := (Kd.R_reads' HO1.out).1.symm
        obtain ⟨ga, ca, ea, hga0, hga1, cells, hga2⟩ := Kd.R_form HO1.out (by omega)
        injection ea with ea_ en_ ec_
        subst ea_
        subst ec_
        clear en_ hga2 cells hga1
        have hgl : ga < w2.heap.size := HO1.out.1 ga rfl
        have HN := Aside0.mk (show w2.heap.size ≠ ga ∧ w2.heap.size + 1 ≠ ga ∧ w.heap.size ≤ ga from ⟨by omega, by omega, hga0⟩)
        have hne : w2.heap.size + 1 ≠ ga := HN.out.2.1
        obtain ⟨hca, hfa⟩ := Kd.R_celln 0 HO1.out (i : Int) (by omega) (by omega)
        rw [Int.toNat_natCast] at hca hfa
        replace hca : wr.cell? ⟨ga, i, none⟩ = some (.int .u64 (xs.getD i 0)) := hca
        have hcc : wr.cell? ⟨w2.heap.size + 1, 0, none⟩ = some (.int .u64 c) := (blk_cell HX2.out 0).trans rfl
        have hfc : wr.frozen? ⟨w2.heap.size + 1, 0, none⟩ = false := blk_frozen HX2.out 0
        have hin : (i : Int) < (x.length : Int) := by omega
        have hmx : (x.length : Int) ≤ 9223372036854775807 := by have := (Kd.R_reads' HO1.out).2.2.2.1; omega
        clear hgl hga0 hxl hilt
        by_cases hib : i < l1.length
        · obtain ⟨ad, e1, hcb⟩ := Kd.at_int HR1.out (i : Int) (by omega) (by omega)
          cases e1
          replace hcb := (HB3.out.cell (World.block_lt_of_cell? w _ hcb)).trans hcb
          rw [Int.toNat_natCast] at hcb
          have hib' : (i : Int) < (l1.length : Int) := by omega
          have hyv : l1.getD i 0 = rd l1 (i : Int) := rfl
          go_wp2_with fail
          refine (limb_Sub.cl w2.heap.size (w2.heap.size + 1) ga i x.length cx (rd l1 (i : Int)) (xs.getD i 0) c wr hcx hcc hca hne hfa hfc hin HC.out).mono ?_
          rintro e w' ⟨rfl, rfl⟩
          go_wp2
          go_roundg d
          case measure => omega
          case rel =>
            have hst := box_step (i := i) (s := sb64 (xs.getD i 0) (l1.getD i 0) c) (c' := bb64 (xs.getD i 0) (l1.getD i 0) c) HX1.out HX2.out HO1.out HB3.out HN.out.1 HN.out.2.1 (by omega) HN.out.2.2 (by have := below_size HB2.out; omega) (fun k_ hk => by omega)
            rw [hyv] at hst
            exact ⟨i + 1, _, _, by go_num, ⟨by have := HI.out; omega⟩, ⟨by have h_ := HS.out; rw [limb_Sub.l0, hyv] at h_; exact h_⟩, ⟨bb64_le _ _ _⟩, ⟨hst.1⟩, ⟨hst.2.1⟩, ⟨hst.2.2.1⟩, ⟨hst.2.2.2⟩⟩
        · have hib' : decide (i < l1.length) = false := decide_eq_false hib
          have hyv : l1.getD i 0 = 0 := by rw [List.getD_eq_getElem?_getD, List.getElem?_eq_none (by omega)]; rfl
          go_wp2_with fail
          refine (limb_Sub.cl w2.heap.size (w2.heap.size + 1) ga i x.length cx (0) (xs.getD i 0) c wr hcx hcc hca hne hfa hfc hin HC.out).mono ?_
          rintro e w' ⟨rfl, rfl⟩
          go_wp2
          go_roundg d
          case measure => omega
          case rel =>
            have hst := box_step (i := i) (s := sb64 (xs.getD i 0) (l1.getD i 0) c) (c' := bb64 (xs.getD i 0) (l1.getD i 0) c) HX1.out HX2.out HO1.out HB3.out HN.out.1 HN.out.2.1 (by omega) HN.out.2.2 (by have := below_size HB2.out; omega) (fun k_ hk => by omega)
            rw [hyv] at hst
            exact ⟨i + 1, _, _, by go_num, ⟨by have := HI.out; omega⟩, ⟨by have h_ := HS.out; rw [limb_Sub.l0, hyv] at h_; exact h_⟩, ⟨bb64_le _ _ _⟩, ⟨hst.1⟩, ⟨hst.2.1⟩, ⟨hst.2.2.1⟩, ⟨hst.2.2.2⟩⟩

-- NOT PRINTED: function 67 (nat_Sub_1)

/-! ### nat_Sub: function 28 -/

def nat_Sub.b (k : Nat) (l0 l1 : List Int) : Option (List Int × Int × Bool) := (nat_May.f l0).bind fun t => if t = true then ((nat_May.f l1).bind fun u => if u = true then ((limb_Sub.f k l0 l1).bind fun x => if (x.1.length : Int) > 8 then some ([], 21, !x.2) else some (x.1, 0, !x.2)) else some ([], 1, false)) else some ([], 1, false)
def nat_Sub.f (k : Nat) (l0 l1 : List Int) : Option (List Int × Int) := (nat_Sub.b k l0 l1).bind fun p => if p.2.2 = true then some ([], 20) else some (p.1, p.2.1)
theorem nat_Sub.mono : ∀ a0 a1 k, LeO (nat_Sub.f k a0 a1) (nat_Sub.f (k + 1) a0 a1) := by
  intro a0 a1 k
  unfold nat_Sub.f nat_Sub.b
  exact LeO.bind (LeO.bind (LeO.refl _) fun _ => LeO.ite (LeO.bind (LeO.refl _) fun _ => LeO.ite (LeO.bind (limb_Sub.mono _ _ _) fun _ => LeO.refl _) (LeO.refl _)) (LeO.refl _)) fun _ => LeO.refl _
set_option maxHeartbeats 8000000 in
set_option maxRecDepth 100000 in
theorem nat_Sub.cl (k g : Nat) (A0 : Option Addr) (c0 : Nat) (l0 : List Int) (A1 : Option Addr) (c1 : Nat) (l1 : List Int) (r1 : List Int) (r2 b0 : Bool) (w : World) (hx : w.heap[g]? = some (.cells #[.bool b0] 4 (0, 0))) (hr0 : Kd.C (Kd.int .u64) w A0 l0.length l0) (hc0 : l0.length ≤ c0) (hr1 : Kd.C (Kd.int .u64) w A1 l1.length l1) (hc1 : l1.length ≤ c1) (h : limb_Sub.f k l0 l1 = some (r1, r2)) :
    Calls Try.prog 67 #[.slice A0 l0.length c0, .slice A1 l1.length c1, .pointer (some ⟨g, 0, none⟩)] w fun e w' => ∃ v0_ : Value, e = .returned v0_ ∧ Kd.R (Kd.int .u64) 50 w' g (fun _ => True) v0_ r1 ∧ Below g w w' ∧ w'.heap[g]? = some (.cells #[.bool (!r2)] 4 (0, 0)) := by
  have HX := Aside0.mk hx
  have HR0 := Aside0.mk hr0
  have HC0 := Aside0.mk hc0
  have HR1 := Aside0.mk hr1
  have HC1 := Aside0.mk hc1
  have H := Aside0.mk h
  have HG := Aside0.mk (blk_lt hx)
  clear hx hr0 hc0 hr1 hc1 h
  have hnot : ∀ (x : Bool) (w : World), (Op.unary .not (.bool x)).run Try.prog w = .ok (.bool (!x)) w := fun _ _ => rfl
  go_enter Try.func67, Try.ntmps67
  go_wp2_with (go_at_call 68; (with_reducible refine (limb_Sub.calls k _ _ l0 _ _ l1 r1 r2 _ HR0.out HC0.out HR1.out HC1.out H.out).mono ?_); rintro e w1 ⟨v, rfl, ho, hb⟩; have HO := Aside0.mk ho; have HX1 := Aside0.mk (blk_below HX.out hb); have HB := Aside0.mk hb; have hcc : w1.cell? ⟨g, 0, none⟩ = some (.bool b0) := (blk_cell HX1.out 0).trans rfl; have hff : w1.frozen? ⟨g, 0, none⟩ = false := blk_frozen HX1.out 0; clear ho hb; obtain ⟨Ax, cx, ev⟩ := Kd.R_slice HO.out; subst ev)
  go_ret
  exact ⟨_, rfl, Kd.R_lower (Kd.R_far (Kd.R_bound HO.out) (p := ⟨g, 0, none⟩) (fun k_ hk => by have h1_ := hk.2.1; have h2_ := HG.out; show k_ ≠ g; omega) _ |> fun h_ => Kd.R_mono h_ (fun _ _ => trivial)) (Nat.le_of_lt HG.out), (HB.out.mono (Nat.le_of_lt HG.out)).setCell (Nat.le_refl _) _, blk_put HX1.out 0 _ rfl⟩

set_option maxHeartbeats 8000000 in
set_option maxRecDepth 100000 in
theorem nat_Sub.both (k g : Nat) (A0 : Option Addr) (c0 : Nat) (l0 : List Int) (A1 : Option Addr) (c1 : Nat) (l1 : List Int) (r1 : List Int) (r2 : Int) (m : Bool) (w : World) (hx : w.heap[g]? = some (.cells #[.bool false] 4 (0, 0))) (hr0 : Kd.C (Kd.int .u64) w A0 l0.length l0) (hc0 : l0.length ≤ c0) (hr1 : Kd.C (Kd.int .u64) w A1 l1.length l1) (hc1 : l1.length ≤ c1) (h : nat_Sub.b k l0 l1 = some (r1, r2, m)) :
    Calls Try.prog 61 #[.slice A0 l0.length c0, .slice A1 l1.length c1, .func (.func 67) #[] #[.pointer (some ⟨g, 0, none⟩)]] w fun e w' => ∃ v0_ : Value, e = .returned (.tuple #[v0_, .int .i64 r2]) ∧ Kd.R (Kd.int .u64) 50 w' g (fun _ => True) v0_ r1 ∧ Below g w w' ∧ w'.heap[g]? = some (.cells #[.bool m] 4 (0, 0)) := by
  have HX := Aside0.mk hx
  have HR0 := Aside0.mk hr0
  have HC0 := Aside0.mk hc0
  have HR1 := Aside0.mk hr1
  have HC1 := Aside0.mk hc1
  clear hx hr0 hc0 hr1 hc1
  unfold nat_Sub.b at h
  obtain ⟨t, ht, h⟩ := Option.bind_eq_some_iff.mp h
  have HT := Aside0.mk ht
  clear ht
  cases t with
  | false =>
    rw [if_neg (by decide)] at h
    simp only [Option.some.injEq, Prod.mk.injEq] at h
    obtain ⟨rfl, rfl, rfl⟩ := h
    go_enter Try.func61, Try.ntmps61
    go_wp2_with ((go_at_call 25; (with_reducible refine (nat_May.calls _ _ l0 false _ (by repeat (first | exact HR0.out | (with_reducible refine Kd.C_drewN ?_ _) | (with_reducible refine Kd.C_drew ?_))) HC0.out HT.out).mono ?_); rintro e w1 ⟨rfl, nd, rfl⟩))
    go_ret2
    exact ⟨_, rfl, Kd.R_nil _ _ _ _ _, (show Below g w _ from by repeat (first | apply pw_below_drewN | apply below_drew1 | exact Below.refl _ _)), (by repeat (first | exact HX.out | (with_reducible refine blk_drewN ?_ _) | (with_reducible refine blk_drew ?_)))⟩
  | true =>
    rw [if_pos rfl] at h
    obtain ⟨u, hu, h⟩ := Option.bind_eq_some_iff.mp h
    have HU := Aside0.mk hu
    clear hu
    cases u with
    | false =>
      rw [if_neg (by decide)] at h
      simp only [Option.some.injEq, Prod.mk.injEq] at h
      obtain ⟨rfl, rfl, rfl⟩ := h
      go_enter Try.func61, Try.ntmps61
      go_wp2_with (first | (go_at_call 25; (with_reducible refine (nat_May.calls _ _ l0 true _ (by repeat (first | exact HR0.out | (with_reducible refine Kd.C_drewN ?_ _) | (with_reducible refine Kd.C_drew ?_))) HC0.out HT.out).mono ?_); rintro e w1 ⟨rfl, nd, rfl⟩) | (go_at_call 25; (with_reducible refine (nat_May.calls _ _ l1 false _ (by repeat (first | exact HR1.out | (with_reducible refine Kd.C_drewN ?_ _) | (with_reducible refine Kd.C_drew ?_))) HC1.out HU.out).mono ?_); rintro e w1 ⟨rfl, nd, rfl⟩))
      go_ret2
      exact ⟨_, rfl, Kd.R_nil _ _ _ _ _, (show Below g w _ from by repeat (first | apply pw_below_drewN | apply below_drew1 | exact Below.refl _ _)), (by repeat (first | exact HX.out | (with_reducible refine blk_drewN ?_ _) | (with_reducible refine blk_drew ?_)))⟩
    | true =>
      rw [if_pos rfl] at h
      obtain ⟨⟨x, y⟩, hx, h⟩ := Option.bind_eq_some_iff.mp h
      have HS := Aside0.mk hx
      clear hx
      simp only at h
      by_cases c2 : (x.length : Int) > 8
      · rw [if_pos c2] at h
        simp only [Option.some.injEq, Prod.mk.injEq] at h
        obtain ⟨rfl, rfl, rfl⟩ := h
        have c2b0 : decide (8 < (x.length : Int)) = true := decide_eq_true c2
        have c2b1 : decide (8 < x.length) = true := decide_eq_true (by omega)
        clear c2
        go_enter Try.func61, Try.ntmps61
        go_wp2_with (first | (go_at_call 25; (with_reducible refine (nat_May.calls _ _ l0 true _ (by repeat (first | exact HR0.out | (with_reducible refine Kd.C_drewN ?_ _) | (with_reducible refine Kd.C_drew ?_))) HC0.out HT.out).mono ?_); rintro e w1 ⟨rfl, nd, rfl⟩) | (go_at_call 25; (with_reducible refine (nat_May.calls _ _ l1 true _ (by repeat (first | exact HR1.out | (with_reducible refine Kd.C_drewN ?_ _) | (with_reducible refine Kd.C_drew ?_))) HC1.out HU.out).mono ?_); rintro e w1 ⟨rfl, nd, rfl⟩))
        refine (nat_Sub.cl k g _ _ l0 _ _ l1 x y false _ (by repeat (first | exact HX.out | (with_reducible refine blk_drewN ?_ _) | (with_reducible refine blk_drew ?_))) (by repeat (first | exact HR0.out | (with_reducible refine Kd.C_drewN ?_ _) | (with_reducible refine Kd.C_drew ?_))) HC0.out (by repeat (first | exact HR1.out | (with_reducible refine Kd.C_drewN ?_ _) | (with_reducible refine Kd.C_drew ?_))) HC1.out HS.out).mono ?_
        rintro e w2 ⟨v, rfl, ho, hb, hx⟩
        have HO := Aside0.mk ho
        have HX2 := Aside0.mk hx
        have HB2 := Aside0.mk (show Below g w w2 from Below.trans (by repeat (first | apply pw_below_drewN | apply below_drew1 | exact Below.refl _ _)) hb)
        clear ho hb hx
        obtain ⟨Ax, cx, ev⟩ := Kd.R_slice HO.out
        subst ev
        go_wp2
        go_ret2
        exact ⟨_, rfl, Kd.R_nil _ _ _ _ _, HB2.out, HX2.out⟩
      · rw [if_neg c2] at h
        simp only [Option.some.injEq, Prod.mk.injEq] at h
        obtain ⟨rfl, rfl, rfl⟩ := h
        have c2b0 : decide (8 < (x.length : Int)) = false := decide_eq_false c2
        have c2b1 : decide (8 < x.length) = false := decide_eq_false (by omega)
        clear c2
        go_enter Try.func61, Try.ntmps61
        go_wp2_with (first | (go_at_call 25; (with_reducible refine (nat_May.calls _ _ l0 true _ (by repeat (first | exact HR0.out | (with_reducible refine Kd.C_drewN ?_ _) | (with_reducible refine Kd.C_drew ?_))) HC0.out HT.out).mono ?_); rintro e w1 ⟨rfl, nd, rfl⟩) | (go_at_call 25; (with_reducible refine (nat_May.calls _ _ l1 true _ (by repeat (first | exact HR1.out | (with_reducible refine Kd.C_drewN ?_ _) | (with_reducible refine Kd.C_drew ?_))) HC1.out HU.out).mono ?_); rintro e w1 ⟨rfl, nd, rfl⟩))
        refine (nat_Sub.cl k g _ _ l0 _ _ l1 x y false _ (by repeat (first | exact HX.out | (with_reducible refine blk_drewN ?_ _) | (with_reducible refine blk_drew ?_))) (by repeat (first | exact HR0.out | (with_reducible refine Kd.C_drewN ?_ _) | (with_reducible refine Kd.C_drew ?_))) HC0.out (by repeat (first | exact HR1.out | (with_reducible refine Kd.C_drewN ?_ _) | (with_reducible refine Kd.C_drew ?_))) HC1.out HS.out).mono ?_
        rintro e w2 ⟨v, rfl, ho, hb, hx⟩
        have HO := Aside0.mk ho
        have HX2 := Aside0.mk hx
        have HB2 := Aside0.mk (show Below g w w2 from Below.trans (by repeat (first | apply pw_below_drewN | apply below_drew1 | exact Below.refl _ _)) hb)
        clear ho hb hx
        obtain ⟨Ax, cx, ev⟩ := Kd.R_slice HO.out
        subst ev
        go_wp2
        go_ret2
        exact ⟨_, rfl, HO.out, HB2.out, HX2.out⟩

set_option maxHeartbeats 8000000 in
set_option maxRecDepth 100000 in
theorem nat_Sub.calls (k : Nat) (A0 : Option Addr) (c0 : Nat) (l0 : List Int) (A1 : Option Addr) (c1 : Nat) (l1 : List Int) (r1 : List Int) (r2 : Int) (w : World) (hr0 : Kd.C (Kd.int .u64) w A0 l0.length l0) (hc0 : l0.length ≤ c0) (hr1 : Kd.C (Kd.int .u64) w A1 l1.length l1) (hc1 : l1.length ≤ c1) (h : nat_Sub.f k l0 l1 = some (r1, r2)) :
    Calls Try.prog 28 #[.slice A0 l0.length c0, .slice A1 l1.length c1] w fun e w' => ∃ v0_ : Value, e = .returned (.tuple #[v0_, .int .i64 r2]) ∧ Kd.R (Kd.int .u64) 50 w' w.heap.size (fun _ => True) v0_ r1 ∧ Below w.heap.size w w' := by
  have HR0 := Aside0.mk hr0
  have HC0 := Aside0.mk hc0
  have HR1 := Aside0.mk hr1
  have HC1 := Aside0.mk hc1
  clear hr0 hc0 hr1 hc1
  unfold nat_Sub.f at h
  obtain ⟨⟨p1, p2, m⟩, hp, h⟩ := Option.bind_eq_some_iff.mp h
  have HP := Aside0.mk hp
  clear hp
  simp only at h
  have HX := Aside0.mk (blk_new w (.cells #[.bool false] 4))
  cases m with
  | true =>
    rw [if_pos rfl] at h
    simp only [Option.some.injEq, Prod.mk.injEq] at h
    obtain ⟨rfl, rfl⟩ := h
    go_enter Try.func28, Try.ntmps28
    go_wp2_with (go_at_call 61; (refine (nat_Sub.both k w.heap.size _ _ l0 _ _ l1 p1 p2 _ _ (by first | exact HX.out | exact (blk_drew HX.out)) (by first | exact Kd.C_alloc HR0.out _ | exact Kd.C_drew (Kd.C_alloc HR0.out _)) HC0.out (by first | exact Kd.C_alloc HR1.out _ | exact Kd.C_drew (Kd.C_alloc HR1.out _)) HC1.out HP.out).mono ?_); rintro e w2 ⟨v, rfl, ho, hb, hx⟩; have HO := Aside0.mk ho; have hcc : w2.cell? ⟨w.heap.size, 0, none⟩ = some (.bool _) := (blk_cell hx 0).trans rfl; have HB2 := Aside0.mk (show Below w.heap.size w w2 from Below.trans (by first | exact below_alloc (Below.refl _ _) _ | exact below_drew (below_alloc (Below.refl _ _) _)) hb); clear ho hb hx; obtain ⟨Ax, cx, ev⟩ := Kd.R_slice HO.out; subst ev)
    go_ret2
    exact ⟨_, rfl, Kd.R_nil _ _ _ _ _, HB2.out⟩
  | false =>
    rw [if_neg (by decide)] at h
    simp only [Option.some.injEq, Prod.mk.injEq] at h
    obtain ⟨rfl, rfl⟩ := h
    go_enter Try.func28, Try.ntmps28
    go_wp2_with (go_at_call 61; (refine (nat_Sub.both k w.heap.size _ _ l0 _ _ l1 p1 p2 _ _ (by first | exact HX.out | exact (blk_drew HX.out)) (by first | exact Kd.C_alloc HR0.out _ | exact Kd.C_drew (Kd.C_alloc HR0.out _)) HC0.out (by first | exact Kd.C_alloc HR1.out _ | exact Kd.C_drew (Kd.C_alloc HR1.out _)) HC1.out HP.out).mono ?_); rintro e w2 ⟨v, rfl, ho, hb, hx⟩; have HO := Aside0.mk ho; have hcc : w2.cell? ⟨w.heap.size, 0, none⟩ = some (.bool _) := (blk_cell hx 0).trans rfl; have HB2 := Aside0.mk (show Below w.heap.size w w2 from Below.trans (by first | exact below_alloc (Below.refl _ _) _ | exact below_drew (below_alloc (Below.refl _ _) _)) hb); clear ho hb hx; obtain ⟨Ax, cx, ev⟩ := Kd.R_slice HO.out; subst ev)
    go_ret2
    exact ⟨_, rfl, HO.out, HB2.out⟩

/-! ### nat_Cmp: function 30 -/
def nat_Cmp.f (k : Nat) (l0 : List Int) (l1 : List Int) : Option (Int) := (limb_Cmp.f k l0 l1).bind fun t191 => (some t191)
theorem nat_Cmp.mono : ∀ a0 a1 k, LeO (nat_Cmp.f k a0 a1) (nat_Cmp.f (k + 1) a0 a1) := by
  intro a0 a1 k
  unfold nat_Cmp.f
  repeat' first
      | (with_reducible exact limb_Cmp.mono _ _ _)
      | (with_reducible exact LeO.refl _)
      | (with_reducible exact LeO.none _)
      | (with_reducible refine LeO.ite ?_ ?_)
      | (with_reducible refine LeO.bind ?_ (fun _ => ?_))
      | exact limb_Cmp.mono _ _ _
      | exact LeO.none _
      | refine LeO.ite ?_ ?_
      | refine LeO.bind ?_ (fun _ => ?_)
set_option maxHeartbeats 8000000 in
set_option maxRecDepth 100000 in
theorem nat_Cmp.calls (k : Nat) (A0 : Option Addr) (c0 : Nat) (l0 : List Int) (A1 : Option Addr) (c1 : Nat) (l1 : List Int) (r : Int) (w : World) (hr0 : Kd.C (Kd.int .u64) w A0 l0.length l0) (hc0 : l0.length ≤ c0) (hr1 : Kd.C (Kd.int .u64) w A1 l1.length l1) (hc1 : l1.length ≤ c1) (h : nat_Cmp.f k l0 l1 = some r) :
    Calls Try.prog 30 #[.slice A0 l0.length c0, .slice A1 l1.length c1] w fun e w' => e = .returned (.int .i64 r) ∧ Below w.heap.size w w' := by
  have HR0 := Aside0.mk hr0
  have HC0 := Aside0.mk hc0
  clear hr0 hc0
  have HR1 := Aside0.mk hr1
  have HC1 := Aside0.mk hc1
  clear hr1 hc1
  have HB := Aside0.mk (Below.refl w.heap.size w)
  have H : ((limb_Cmp.f k l0 l1).bind fun t191 => (some t191)) = some r := h
  clear h
  replace H := Option.bind_eq_some_iff.mp H
  obtain ⟨t191, A30, H⟩ := H
  replace H : (some t191) = some r := H
  have A3 := Aside0.mk A30
  clear A30
  obtain rfl := Option.some.inj H
  go_enter Try.func30, Try.ntmps30
  go_wp2_with (first | ((with_reducible refine gate_callee (f := 70) rfl ?_); refine goesL_ (some 7) rfl rfl Try.func70 (by kernel_rfl) rfl #[.slice A0 l0.length c0, .slice A1 l1.length c1] rfl (by (try simp only [List.map_toArray, List.map_cons, List.map_nil]); first | done | rfl | (simp only [List.length_drop, List.length_take]; rfl)) ?_; (with_reducible refine (limb_Cmp.calls k _ _ l0 _ _ l1 t191 _ ?side1 ?side2 ?side3 ?side4 A3.out).mono ?_); (case side1 => repeat (first | exact HR0.out | (with_reducible refine Kd.C_alloc ?_ _) | (with_reducible refine Kd.C_drewN ?_ _) | (with_reducible refine Kd.C_drew ?_))); (case side2 => exact HC0.out); (case side3 => repeat (first | exact HR1.out | (with_reducible refine Kd.C_alloc ?_ _) | (with_reducible refine Kd.C_drewN ?_ _) | (with_reducible refine Kd.C_drew ?_))); (case side4 => exact HC1.out); rintro e w4 ⟨rfl, hb⟩; refine ⟨_, rfl, ?_⟩; have n0_ := Aside0.mk (below_step (by repeat (first | (with_reducible first | exact HB.out | apply below_alloc | apply pw_below_drewN | apply below_drew1) | exact HB.out)) hb); clear HB; have HB := n0_; clear n0_; (try clear hb); (try clear hb2); (try clear hk); (try clear hi)))
  go_ret
  exact ⟨by first | rfl | (simp [errW_none, errW_some] <;> rfl) | (simp [*, errW_none, errW_some] <;> rfl), by repeat (first | (with_reducible first | exact HB.out | apply below_alloc | apply pw_below_drewN | apply below_drew1) | exact HB.out)⟩

end Go.Proofs.Ytmknpclfanblfaa.PONatTells
