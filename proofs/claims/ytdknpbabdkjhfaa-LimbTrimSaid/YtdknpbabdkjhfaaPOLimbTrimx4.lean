-- Written by a program of this session (pr.py, over the kit's print.py).
import Derived.Test.YtdknpbabdkjhfaaPOLimbTrimx0
import Derived.Test.YtdknpbabdkjhfaaPOLimbTrimx1
namespace Go.Proofs.Ytdknpbabdkjhfaa.POLimbTrim
open Go.RowKit Go.Proofs.YtdknpbabdkjhfaaN Go.Proofs.YtdknpbabdkjhfaaW.PrintWords Go.Proofs.YtdknpbabdkjhfaaW.PrintLast Go.Proofs.YtdknpbabdkjhfaaW.PrintMore
attribute [local go_sem] max2_int min2_int max_two min_two max_three min_three max_four min_four   -- for this text's walks alone
set_option linter.unusedVariables false
set_option linter.unusedSimpArgs false

/-! ### bits_Len64: function 35 -/

def bits_Len64.f (a0 : Int) : Option Int := if 0 ≤ a0 ∧ a0 < B then some (Lib.bitLen a0.toNat) else none
theorem bits_Len64.calls (a0 : Int) (r : Int) (w : World) (h : bits_Len64.f a0 = some r) :
    Calls Try.prog 35 #[.int .u64 a0] w fun e w' => e = .returned (.int .i64 r) ∧ Drawn0 w w' := by
  unfold bits_Len64.f at h
  by_cases hc : 0 ≤ a0 ∧ a0 < B
  · rw [if_pos hc] at h
    cases h
    exact (Go.Proofs.Ytdknpbabdkjhfaa.Len64.calls_ a0 w hc.1 (by have := hc.2; rw [B_eq] at this; omega)).mono fun e w' ⟨he, hw⟩ => ⟨he, hw ▸ Drawn0.refl w⟩
  · rw [if_neg hc] at h; cases h

/-! ### limb_Bits: function 20 -/
def limb_Bits.f (k : Nat) (l0 : List Int) : Option (Int) := (limb_trim.f k l0).bind fun t198 => (if (t198.length : Int) = 0 then (some 0) else (if 0 ≤ (wrap64 ((t198.length : Int) - 1)) then (if (wrap64 ((t198.length : Int) - 1)) < (t198.length : Int) then ((bits_Len64.f (rd t198 (wrap64 ((t198.length : Int) - 1)))).bind fun t202 => (some (wrap64 ((wrap64 (64 * (wrap64 ((t198.length : Int) - 1)))) + t202)))) else (none)) else (none)))
theorem limb_Bits.mono : ∀ a0 k, LeO (limb_Bits.f k a0) (limb_Bits.f (k + 1) a0) := by
  intro a0 k
  unfold limb_Bits.f
  repeat' first
      | (with_reducible exact limb_trim.mono _ _)
      | (with_reducible exact LeO.refl _)
      | (with_reducible exact LeO.none _)
      | (with_reducible refine LeO.ite ?_ ?_)
      | (with_reducible refine LeO.bind ?_ (fun _ => ?_))
      | exact limb_trim.mono _ _
      | exact LeO.none _
      | refine LeO.ite ?_ ?_
      | refine LeO.bind ?_ (fun _ => ?_)
set_option maxHeartbeats 8000000 in
set_option maxRecDepth 100000 in
theorem limb_Bits.calls (k : Nat) (A0 : Option Addr) (c0 : Nat) (l0 : List Int) (r : Int) (w : World) (hr0 : Kd.C (Kd.int .u64) w A0 l0.length l0) (hc0 : l0.length ≤ c0) (h : limb_Bits.f k l0 = some r) :
    Calls Try.prog 20 #[.slice A0 l0.length c0] w fun e w' => e = .returned (.int .i64 r) ∧ Below w.heap.size w w' := by
  have HR0 := Aside0.mk hr0
  have HC0 := Aside0.mk hc0
  clear hr0 hc0
  have HB := Aside0.mk (Below.refl w.heap.size w)
  have H : ((limb_trim.f k l0).bind fun t198 => (if (t198.length : Int) = 0 then (some 0) else (if 0 ≤ (wrap64 ((t198.length : Int) - 1)) then (if (wrap64 ((t198.length : Int) - 1)) < (t198.length : Int) then ((bits_Len64.f (rd t198 (wrap64 ((t198.length : Int) - 1)))).bind fun t202 => (some (wrap64 ((wrap64 (64 * (wrap64 ((t198.length : Int) - 1)))) + t202)))) else (none)) else (none)))) = some r := h
  clear h
  replace H := Option.bind_eq_some_iff.mp H
  obtain ⟨t198, A20, H⟩ := H
  replace H : (if (t198.length : Int) = 0 then (some 0) else (if 0 ≤ (wrap64 ((t198.length : Int) - 1)) then (if (wrap64 ((t198.length : Int) - 1)) < (t198.length : Int) then ((bits_Len64.f (rd t198 (wrap64 ((t198.length : Int) - 1)))).bind fun t202 => (some (wrap64 ((wrap64 (64 * (wrap64 ((t198.length : Int) - 1)))) + t202)))) else (none)) else (none))) = some r := H
  have A2 := Aside0.mk A20
  clear A20
  by_cases c3 : (t198.length : Int) = 0
  · rw [if_pos c3] at H
    have c3b0 : ((t198.length : Int) == 0) = true := beq_iff_eq.mpr c3
    have c3b1 : ((t198.length : Int) != 0) = false := bne_eq_false_iff_eq.mpr c3
    clear c3
    obtain rfl := Option.some.inj H
    go_enter Try.func20, Try.ntmps20
    go_wp2_with (first | ((with_reducible refine gate_callee (f := 28) rfl ?_); refine goesL_ (some 4) rfl rfl Try.func28 (by kernel_rfl) rfl #[.slice A0 l0.length c0] rfl (by (try simp only [List.map_toArray, List.map_cons, List.map_nil]); first | done | rfl | (simp only [List.length_drop, List.length_take]; rfl)) ?_; (with_reducible refine (limb_trim.calls k (fun k_ => k_ < w.heap.size) _ _ l0 t198 _ ?side1 A2.out).mono ?_); (case side1 => exact Kd.V_mk HC0.out (Kd.F_below (Kd.C_F (Kd.heap_int .u64) HR0.out) (by repeat (first | (with_reducible first | exact HB.out | apply below_alloc | apply pw_below_drewN | apply below_drew1) | exact HB.out)))); rintro e w4 ⟨v199, rfl, ho0, hb⟩; refine ⟨_, rfl, ?_⟩; have n0_ := Aside0.mk (Kd.V_lower (Kd.V_mono (ok' := fun k_ => True) ho0 (fun k_ hk_ => trivial)) (below_size (by repeat (first | (with_reducible first | exact HB.out | apply below_alloc | apply pw_below_drewN | apply below_drew1) | exact HB.out)))); have n1_ := Aside0.mk (below_step (by repeat (first | (with_reducible first | exact HB.out | apply below_alloc | apply pw_below_drewN | apply below_drew1) | exact HB.out)) hb); clear HB; have HO200 := n0_; have HB := n1_; clear n0_ n1_; (try clear hb); (try clear hb2); (try clear hk); (try clear hi); (try clear ho0); obtain ⟨Ao5, co5, eo5⟩ := Kd.V_slice HO200.out; subst eo5))
    go_ret
    exact ⟨by first | rfl | (simp [errW_none, errW_some] <;> rfl) | (simp [*, errW_none, errW_some] <;> rfl), by repeat (first | (with_reducible first | exact HB.out | apply below_alloc | apply pw_below_drewN | apply below_drew1) | exact HB.out)⟩
  · rw [if_neg c3] at H
    have c3b0 : ((t198.length : Int) == 0) = false := beq_eq_false_iff_ne.mpr c3
    have c3b1 : ((t198.length : Int) != 0) = true := bne_iff_ne.mpr c3
    have c3b2 : ¬ (t198 = []) := fun h_ => c3 (by rw [h_]; rfl)
    obtain ⟨ji6, hji6⟩ : ∃ j_ : Int, (wrap64 ((t198.length : Int) - 1)) = j_ := ⟨_, rfl⟩
    replace H : (if 0 ≤ (ji6) then (if (ji6) < (t198.length : Int) then ((bits_Len64.f (rd t198 (ji6))).bind fun t202 => (some (wrap64 ((wrap64 (64 * (ji6))) + t202)))) else (none)) else (none)) = some r := by first | (rw [hji6] at H; exact H) | (simp only [hji6] at H ⊢; exact H)
    (try rw [hji6] at A2)
    have hji6w : (IntKind.i64.wrap ((t198.length : Int) - 1)) = ji6 := (i64_w _).trans hji6
    by_cases c7 : 0 ≤ (ji6)
    · rw [if_pos c7] at H
      have c7b0 : decide (0 ≤ (ji6)) = true := decide_eq_true c7
      clear c7
      by_cases c8 : (ji6) < (t198.length : Int)
      · rw [if_pos c8] at H
        have c8b0 : decide ((ji6) < (t198.length : Int)) = true := decide_eq_true c8
        clear c8
        replace H := Option.bind_eq_some_iff.mp H
        obtain ⟨t202, A90, H⟩ := H
        replace H : (some (wrap64 ((wrap64 (64 * (ji6))) + t202))) = some r := H
        have A9 := Aside0.mk A90
        clear A90
        obtain rfl := Option.some.inj H
        go_enter Try.func20, Try.ntmps20
        go_wp2_with (first | ((with_reducible refine gate_callee (f := 28) rfl ?_); refine goesL_ (some 4) rfl rfl Try.func28 (by kernel_rfl) rfl #[.slice A0 l0.length c0] rfl (by (try simp only [List.map_toArray, List.map_cons, List.map_nil]); first | done | rfl | (simp only [List.length_drop, List.length_take]; rfl)) ?_; (with_reducible refine (limb_trim.calls k (fun k_ => k_ < w.heap.size) _ _ l0 t198 _ ?side1 A2.out).mono ?_); (case side1 => exact Kd.V_mk HC0.out (Kd.F_below (Kd.C_F (Kd.heap_int .u64) HR0.out) (by repeat (first | (with_reducible first | exact HB.out | apply below_alloc | apply pw_below_drewN | apply below_drew1) | exact HB.out)))); rintro e w10 ⟨v199, rfl, ho0, hb⟩; refine ⟨_, rfl, ?_⟩; have n0_ := Aside0.mk (Kd.V_lower (Kd.V_mono (ok' := fun k_ => True) ho0 (fun k_ hk_ => trivial)) (below_size (by repeat (first | (with_reducible first | exact HB.out | apply below_alloc | apply pw_below_drewN | apply below_drew1) | exact HB.out)))); have n1_ := Aside0.mk (below_step (by repeat (first | (with_reducible first | exact HB.out | apply below_alloc | apply pw_below_drewN | apply below_drew1) | exact HB.out)) hb); clear HB; have HO200 := n0_; have HB := n1_; clear n0_ n1_; (try clear hb); (try clear hb2); (try clear hk); (try clear hi); (try clear ho0); obtain ⟨Ao11, co11, eo11⟩ := Kd.V_slice HO200.out; subst eo11; have p201 : 0 ≤ ((ji6) : Int) := of_decide_eq_true (by first | (with_reducible assumption) | assumption); have q201 : (ji6) < (t198.length : Int) := of_decide_eq_true (by first | (with_reducible assumption) | assumption); obtain ⟨ad201, e201, hx201_0⟩ := Kd.at_int (Kd.V_reads' HO200.out).2.2 (ji6) p201 q201; cases e201; replace p201 := eq_true p201; replace q201 := eq_true q201) | ((with_reducible refine gate_callee (f := 35) rfl ?_); refine goesL_ (some 18) rfl rfl Try.func35 (by kernel_rfl) rfl #[.int .u64 (rd t198 (ji6))] rfl (by (try simp only [List.map_toArray, List.map_cons, List.map_nil]); first | done | (simp only [hji6]; rfl) | rfl | (simp only [List.length_drop, List.length_take]; rfl)) ?_; (with_reducible refine (bits_Len64.calls (rd t198 (ji6)) t202 _ A9.out).mono ?_); rintro e w' ⟨rfl, ⟨nd, rfl⟩⟩; refine ⟨_, rfl, ?_⟩))
        go_ret
        exact ⟨by first | rfl | (simp [errW_none, errW_some] <;> rfl) | (simp only [← hji6]; first | rfl | (simp [errW_none, errW_some] <;> rfl)) | (simp [*, errW_none, errW_some] <;> rfl), by repeat (first | (with_reducible first | exact HB.out | apply below_alloc | apply pw_below_drewN | apply below_drew1) | exact HB.out)⟩
      · rw [if_neg c8] at H
        exact absurd H (by simp)
    · rw [if_neg c7] at H
      exact absurd H (by simp)

/-! ### bits_Mul64: function 36 -/

def bits_Mul64.f (a0 a1 : Int) : Option (Int × Int) := if (0 ≤ a0 ∧ a0 < B) ∧ 0 ≤ a1 ∧ a1 < B then some (a0 * a1 / B, a0 * a1 % B) else none
namespace bits_Mul64
theorem maskN (a : Nat) (ha : a < 18446744073709551616) : bits .and .u64 (a : Int) 4294967295 = ((a % 4294967296 : Nat) : Int) := by
  have h := bits_and_u64_nat a 4294967295 ha (by omega)
  have e : a &&& 4294967295 = a % 4294967296 := Nat.and_two_pow_sub_one_eq_mod a 32
  rw [e] at h
  exact h
theorem divN (a : Nat) : (a : Int) / 4294967296 = ((a / 4294967296 : Nat) : Int) := by omega
theorem mulN (a b : Nat) : (a : Int) * (b : Int) = ((a * b : Nat) : Int) := (Int.natCast_mul a b).symm
theorem addN (a b : Nat) : (a : Int) + (b : Int) = ((a + b : Nat) : Int) := (Int.natCast_add a b).symm
theorem wrapN (a : Nat) (ha : a < 18446744073709551616) : IntKind.u64.wrap (a : Int) = (a : Int) := by rw [IntKind.wrap_u64]; omega
theorem wrapM (a : Nat) : IntKind.u64.wrap (a : Int) = ((a % 18446744073709551616 : Nat) : Int) := by rw [IntKind.wrap_u64]; omega
set_option maxHeartbeats 1000000 in
theorem calls_ (x y : Nat) (hx : x < 18446744073709551616) (hy : y < 18446744073709551616) (w : World) :
    Calls Try.prog 36 #[.int .u64 x, .int .u64 y] w fun e w' => e = .returned (.tuple #[.int .u64 ((x * y / 18446744073709551616 : Nat) : Int), .int .u64 ((x * y % 18446744073709551616 : Nat) : Int)]) ∧ w' = w := by
  obtain ⟨bd, bt, bw, hhi⟩ := Lib.mul64_hi x y hx hy
  have ba := Lib.half_mul_le (a := x / 4294967296) (b := y / 4294967296) (by omega) (by omega)
  have bb := Lib.half_mul_le (a := x / 4294967296) (b := y % 4294967296) (by omega) (by omega)
  have bc := Lib.half_mul_le (a := x % 4294967296) (b := y / 4294967296) (by omega) (by omega)
  have ba' : x / 4294967296 * (y / 4294967296) < 18446744073709551616 := by omega
  have bb' : x / 4294967296 * (y % 4294967296) < 18446744073709551616 := by omega
  have bc' : x % 4294967296 * (y / 4294967296) < 18446744073709551616 := by omega
  have bh1 : x / 4294967296 * (y / 4294967296) + (x / 4294967296 * (y % 4294967296) + x % 4294967296 * (y % 4294967296) / 4294967296) / 4294967296 < 18446744073709551616 := by omega
  have bh : x / 4294967296 * (y / 4294967296) + (x / 4294967296 * (y % 4294967296) + x % 4294967296 * (y % 4294967296) / 4294967296) / 4294967296 + ((x / 4294967296 * (y % 4294967296) + x % 4294967296 * (y % 4294967296) / 4294967296) % 4294967296 + x % 4294967296 * (y / 4294967296)) / 4294967296 < 18446744073709551616 := by omega
  go_enter Try.func36, Try.ntmps36
  go_wp2
  simp only [maskN x hx, maskN y hy, divN, mulN, addN, wrapN _ bd, wrapN _ bb', wrapN _ bt, maskN _ bt, wrapN _ bc', wrapN _ bw, wrapN _ ba', wrapN _ bh1, wrapN _ bh, wrapM (x * y)]
  rw [hhi]
  go_ret2
  exact ⟨rfl, rfl⟩
end bits_Mul64
theorem bits_Mul64.calls (a0 : Int) (a1 : Int) (r1 : Int) (r2 : Int) (w : World) (h : bits_Mul64.f a0 a1 = some (r1, r2)) :
    Calls Try.prog 36 #[.int .u64 a0, .int .u64 a1] w fun e w' => e = .returned (.tuple #[.int .u64 r1, .int .u64 r2]) ∧ Drawn0 w w' := by
  unfold bits_Mul64.f at h
  by_cases hc : (0 ≤ a0 ∧ a0 < B) ∧ 0 ≤ a1 ∧ a1 < B
  · rw [if_pos hc] at h
    cases h
    obtain ⟨⟨h0, h1⟩, h2, h3⟩ := hc
    obtain ⟨x, rfl⟩ := Int.eq_ofNat_of_zero_le h0
    obtain ⟨y, rfl⟩ := Int.eq_ofNat_of_zero_le h2
    rw [B_eq] at h1 h3
    refine (bits_Mul64.calls_ x y (by omega) (by omega) w).mono fun e w' ⟨he, hw⟩ => ⟨?_, hw ▸ Drawn0.refl w⟩
    rw [he, B_eq]
    simp only [Int.natCast_ediv, Int.natCast_emod, Int.natCast_mul]
    rfl
  · rw [if_neg hc] at h; cases h

/-! ### limb_sum: function 37 -/
set_option maxHeartbeats 4000000 in
set_option maxRecDepth 100000 in
theorem limb_sum.cl (gx gc ga i n cap : Nat) (y a b : Int) (w : World) (hx : w.cell? ⟨gx, 0, none⟩ = some (.slice (some ⟨ga, 0, none⟩) n cap)) (hc : w.cell? ⟨gc, 0, none⟩ = some (.int .u64 b)) (ha : w.cell? ⟨ga, i, none⟩ = some (.int .u64 a))
    (hne : gc ≠ ga) (fa : w.frozen? ⟨ga, i, none⟩ = false) (fc : w.frozen? ⟨gc, 0, none⟩ = false) (hi : (i : Int) < (n : Int)) (hb : decide (b ≤ 1) = true) :
    Calls Try.prog 41 #[.int .i64 i, .int .u64 y, .pointer (some ⟨gx, 0, none⟩), .pointer (some ⟨gc, 0, none⟩)] w fun e w' => e = .returned (.tuple #[]) ∧ w' = ((w.setCell ⟨ga, i, none⟩ (.int .u64 (ad64 a y b))).setCell ⟨gc, 0, none⟩ (.int .u64 (ac64 a y b))).drew := by
  rw [← World.setCell_drew, ← World.setCell_drew]
  have hi0 : 0 ≤ (i : Int) := by omega
  have fa' : w.drew.frozen? ⟨ga, i, none⟩ = false := fa
  have fc' : w.drew.frozen? ⟨gc, 0, none⟩ = false := fc
  have hx' : w.drew.cell? ⟨gx, 0, none⟩ = some (.slice (some ⟨ga, 0, none⟩) n cap) := hx
  have ha' : w.drew.cell? ⟨ga, i, none⟩ = some (.int .u64 a) := ha
  have hc' : w.drew.cell? ⟨gc, 0, none⟩ = some (.int .u64 b) := hc
  clear fa fc hx ha hc
  go_enter Try.func41, Try.ntmps41
  refine start_ (n := 15) (S := fun w' => w'.cell? ⟨gx, 0, none⟩ = some (.slice (some ⟨ga, 0, none⟩) n cap) ∧ w'.cell? ⟨ga, i, none⟩ = some (.int .u64 a) ∧ w'.cell? ⟨gc, 0, none⟩ = some (.int .u64 b)) (ds := [13, 14]) #[false, false, false, false, false, false, false, false, false, false, false, false, false, false, false] (by kernel_rfl) rfl rfl ⟨hx', ha', hc'⟩ (fun hHeld => ?_)
  generalize w.drew = w1 at fa' fc' hx' ha' hc' hHeld ⊢
  refine pure_ (i := 1) (N := some 8) (v := ?_) (a' := ?_) #[false, true, false, false, false, false, false, false, false, false, false, false, false, false, false] rfl rfl (by kernel_rfl) (fun _ _ _ h => h) (Or.inl ⟨by rfl, ?_⟩) ?_ ?_
  rotate_left
  · intro w'
    go_simp
    with_reducible rfl
  rotate_left
  · simp only [Act.put, List.setIfInBounds_toArray, List.set_cons_zero, List.set_cons_succ, i64_w, i32_w]
    rfl
  refine pure_ (i := 3) (N := some 10) (v := ?_) (a' := ?_) #[false, true, false, true, false, false, false, false, false, false, false, false, false, false, false] rfl rfl (by kernel_rfl) (fun _ _ _ h => h) (Or.inl ⟨by rfl, ?_⟩) ?_ ?_
  rotate_left
  · intro w'
    go_simp
    with_reducible rfl
  rotate_left
  · simp only [Act.put, List.setIfInBounds_toArray, List.set_cons_zero, List.set_cons_succ, i64_w, i32_w]
    rfl
  refine pure_ (i := 6) (N := some 13) (v := ?_) (a' := ?_) #[false, true, false, true, false, false, true, false, false, false, false, false, false, false, false] rfl rfl (by kernel_rfl) (fun _ _ _ h => h) (Or.inl ⟨by rfl, ?_⟩) ?_ ?_
  rotate_left
  · intro w'
    go_simp
    with_reducible rfl
  rotate_left
  · simp only [Act.put, List.setIfInBounds_toArray, List.set_cons_zero, List.set_cons_succ, i64_w, i32_w]
    rfl
  refine take_ (i := 0) (N := some 7) (v := ?_) (a' := ?_) #[true, true, false, true, false, false, true, false, false, false, false, false, false, false, false] rfl rfl (by kernel_rfl) (fun _ _ _ h => h) (Or.inl ⟨by rfl, ?_⟩) hHeld ?_ ?_
  rotate_left
  · rintro w' ⟨s0, s1, s2⟩
    go_simp
    with_reducible rfl
  rotate_left
  · simp only [Act.put, List.setIfInBounds_toArray, List.set_cons_zero, List.set_cons_succ, i64_w, i32_w]
    rfl
  refine take_ (i := 2) (N := some 9) (v := ?_) (a' := ?_) #[true, true, true, true, false, false, true, false, false, false, false, false, false, false, false] rfl rfl (by kernel_rfl) (fun _ _ _ h => h) (Or.inl ⟨by rfl, ?_⟩) hHeld ?_ ?_
  rotate_left
  · rintro w' ⟨s0, s1, s2⟩
    go_simp
    with_reducible rfl
  rotate_left
  · simp only [Act.put, List.setIfInBounds_toArray, List.set_cons_zero, List.set_cons_succ, i64_w, i32_w]
    rfl
  refine pure_ (i := 4) (N := some 11) (v := ?_) (a' := ?_) #[true, true, true, true, true, false, true, false, false, false, false, false, false, false, false] rfl rfl (by kernel_rfl) (fun _ _ _ h => h) (Or.inl ⟨by rfl, ?_⟩) ?_ ?_
  rotate_left
  · intro w'
    go_simp
    with_reducible rfl
  rotate_left
  · simp only [Act.put, List.setIfInBounds_toArray, List.set_cons_zero, List.set_cons_succ, i64_w, i32_w]
    rfl
  refine take_ (i := 5) (N := some 12) (v := ?_) (a' := ?_) #[true, true, true, true, true, true, true, false, false, false, false, false, false, false, false] rfl rfl (by kernel_rfl) (fun _ _ _ h => h) (Or.inl ⟨by rfl, ?_⟩) hHeld ?_ ?_
  rotate_left
  · rintro w' ⟨s0, s1, s2⟩
    go_simp
    with_reducible rfl
  rotate_left
  · simp only [Act.put, List.setIfInBounds_toArray, List.set_cons_zero, List.set_cons_succ, i64_w, i32_w]
    rfl
  refine take_ (i := 7) (N := some 14) (v := ?_) (a' := ?_) #[true, true, true, true, true, true, true, true, false, false, false, false, false, false, false] rfl rfl (by kernel_rfl) (fun _ _ _ h => h) (Or.inl ⟨by rfl, ?_⟩) hHeld ?_ ?_
  rotate_left
  · rintro w' ⟨s0, s1, s2⟩
    go_simp
    with_reducible rfl
  rotate_left
  · simp only [Act.put, List.setIfInBounds_toArray, List.set_cons_zero, List.set_cons_succ, i64_w, i32_w]
    rfl
  refine pure_ (i := 8) (N := some 15) (v := ?_) (a' := ?_) #[true, true, true, true, true, true, true, true, true, false, false, false, false, false, false] rfl rfl (by kernel_rfl) (fun _ _ _ h => h) (Or.inl ⟨by rfl, ?_⟩) ?_ ?_
  rotate_left
  · intro w'
    go_simp
    with_reducible rfl
  rotate_left
  · simp only [Act.put, List.setIfInBounds_toArray, List.set_cons_zero, List.set_cons_succ, i64_w, i32_w]
    rfl
  refine pure_ (i := 9) (N := some 6) (v := ?_) (a' := ?_) #[true, true, true, true, true, true, true, true, true, true, false, false, false, false, false] rfl rfl (by kernel_rfl) (fun _ _ _ h => h) (Or.inl ⟨by rfl, ?_⟩) ?_ ?_
  rotate_left
  · intro w'
    go_simp
    with_reducible rfl
  rotate_left
  · simp only [Act.put, List.setIfInBounds_toArray, List.set_cons_zero, List.set_cons_succ, i64_w, i32_w]
    rfl
  refine pure_ (i := 10) (N := some 16) (v := ?_) (a' := ?_) #[true, true, true, true, true, true, true, true, true, true, true, false, false, false, false] rfl rfl (by kernel_rfl) (fun _ _ _ h => h) (Or.inl ⟨by rfl, ?_⟩) ?_ ?_
  rotate_left
  · intro w'
    go_simp
    with_reducible rfl
  rotate_left
  · simp only [Act.put, List.setIfInBounds_toArray, List.set_cons_zero, List.set_cons_succ, i64_w, i32_w]
    rfl
  refine pure_ (i := 11) (N := some 17) (v := ?_) (a' := ?_) #[true, true, true, true, true, true, true, true, true, true, true, true, false, false, false] rfl rfl (by kernel_rfl) (fun _ _ _ h => h) (Or.inl ⟨by rfl, ?_⟩) ?_ ?_
  rotate_left
  · intro w'
    go_simp
    with_reducible rfl
  rotate_left
  · simp only [Act.put, List.setIfInBounds_toArray, List.set_cons_zero, List.set_cons_succ, i64_w, i32_w]
    rfl
  refine pure_ (i := 12) (N := some 18) (v := ?_) (a' := ?_) #[true, true, true, true, true, true, true, true, true, true, true, true, true, false, false] rfl rfl (by kernel_rfl) (fun _ _ _ h => h) (Or.inl ⟨by rfl, ?_⟩) ?_ ?_
  rotate_left
  · intro w'
    go_simp
    with_reducible rfl
  rotate_left
  · simp only [Act.put, List.setIfInBounds_toArray, List.set_cons_zero, List.set_cons_succ, i64_w, i32_w]
    rfl
  refine last_ (i := 13) (N := none) #[true, true, true, true, true, true, true, true, true, true, true, true, true, true, false] rfl rfl (by kernel_rfl) (by decide) (fun K hK => ?_)
  refine skip_ (w1 := ?_) (by rfl) rfl ?_ ?_
  rotate_left
  · go_simp
    rfl
  refine hK.out _ _ ?_
  clear hK K
  refine last_ (i := 14) (N := none) #[true, true, true, true, true, true, true, true, true, true, true, true, true, true, true] rfl rfl (by kernel_rfl) (by decide) (fun K hK => ?_)
  refine skip_ (w1 := ?_) (by rfl) rfl ?_ ?_
  rotate_left
  · go_simp
    rfl
  refine hK.out _ _ ?_
  clear hK K
  refine done_ (by kernel_rfl) ?_
  go_wp2
  go_end0
  exact ⟨rfl, rfl⟩

def limb_sum.pad (out : List Int) (n : Nat) : List Int := out ++ List.replicate (n - out.length) 0
def limb_sum.l3 : List Int → List Int → Nat → Int → Option (List Int × Int)
  | [], out, _, c => some (out, c)
  | x :: r, out, i, c => if c ≤ 1 ∧ i < out.length then limb_sum.l3 r (out.set i (ad64 (out.getD i 0) x c)) (i + 1) (ac64 (out.getD i 0) x c) else none
def limb_sum.l4 : Nat → List Int → Nat → Int → Option (List Int)
  | 0, _, _, _ => none
  | k + 1, out, i, c => if 0 < c then (if c ≤ 1 ∧ i ≤ out.length ∧ i < 17592186044415 then limb_sum.l4 k ((limb_sum.pad out (i + 1)).set i (ad64 ((limb_sum.pad out (i + 1)).getD i 0) 0 c)) (i + 1) (ac64 ((limb_sum.pad out (i + 1)).getD i 0) 0 c) else none) else some out
def limb_sum.l1 (k : Nat) : List (List Int) → Nat → List Int → Option (List Int)
  | [], _, out => some out
  | r :: rs, j, out => (limb_trim.f k r).bind fun t => if j + t.length < 17592186044415 then (limb_sum.l3 t (limb_sum.pad out (j + t.length)) j 0).bind fun p => (limb_sum.l4 k p.1 (j + t.length) p.2).bind fun o => limb_sum.l1 k rs (j + 1) o else none
def limb_sum.f (k : Nat) (l0 : List (List Int)) : Option (List Int) := (limb_sum.l1 k l0 0 []).bind fun o => (limb_trim.f k o).bind fun t => (slices_Clone_uint64_uint64.f t).bind fun r => some r
theorem limb_sum.mono4 : ∀ k o i c, LeO (limb_sum.l4 k o i c) (limb_sum.l4 (k + 1) o i c)
  | 0, _, _, _ => fun r h => by simp [limb_sum.l4] at h
  | k + 1, o, i, c => by
    rw [limb_sum.l4, limb_sum.l4]
    exact LeO.ite (LeO.ite (limb_sum.mono4 k _ _ _) (LeO.refl _)) (LeO.refl _)
theorem limb_sum.mono1 (k : Nat) : ∀ l j o, LeO (limb_sum.l1 k l j o) (limb_sum.l1 (k + 1) l j o)
  | [], _, _ => LeO.refl _
  | r :: rs, j, o => by
    rw [limb_sum.l1, limb_sum.l1]
    exact LeO.bind (limb_trim.mono _ _) fun t => LeO.ite (LeO.bind (LeO.refl _) fun p => LeO.bind (limb_sum.mono4 _ _ _ _) fun o => limb_sum.mono1 k rs _ _) (LeO.refl _)
theorem limb_sum.mono : ∀ a0 k, LeO (limb_sum.f k a0) (limb_sum.f (k + 1) a0) := by
  intro a0 k
  unfold limb_sum.f
  exact LeO.bind (limb_sum.mono1 k _ _ _) fun _ => LeO.bind (limb_trim.mono _ _) fun _ => LeO.refl _
theorem limb_sum.c_take {w : World} {A : Option Addr} {l t : List Int} (h : Kd.C (Kd.int .u64) w A l.length l) (ht : t = l.take t.length) : Kd.C (Kd.int .u64) w A t.length t := by
  have hl : t.length ≤ l.length := by
    have := congrArg List.length ht
    rw [List.length_take] at this
    omega
  have := Kd.C_take h hl
  rw [← ht] at this
  exact this
theorem limb_sum.pad_succ {out o2 : List Int} (h : o2 = limb_sum.pad out o2.length) (hl : out.length ≤ o2.length) : o2 ++ [0] = limb_sum.pad out (o2.length + 1) := by
  have e : o2.length + 1 - out.length = (o2.length - out.length) + 1 := by omega
  have h2 : o2 ++ [0] = limb_sum.pad out o2.length ++ [0] := congrArg (· ++ [0]) h
  rw [h2]
  unfold limb_sum.pad
  rw [e, List.replicate_succ', List.append_assoc]
theorem limb_sum.pad_done {out o2 : List Int} {n : Nat} (h : o2 = limb_sum.pad out o2.length) (_ : out.length ≤ o2.length) (hn : n ≤ o2.length) (hx : o2.length ≤ n ∨ o2.length = out.length) : limb_sum.pad out n = o2 := by
  rcases hx with hx | hx
  · rw [show n = o2.length from by omega]; exact h.symm
  · have e1 : n - out.length = 0 := by omega
    have e2 : o2.length - out.length = 0 := by omega
    have h2 : limb_sum.pad out n = limb_sum.pad out o2.length := by unfold limb_sum.pad; rw [e1, e2]
    rw [h2, ← h]
theorem limb_sum.pad_more {o : List Int} {i : Nat} (h : i = o.length) : limb_sum.pad o (i + 1) = o ++ [0] := by
  subst h
  unfold limb_sum.pad
  rw [show o.length + 1 - o.length = 1 from by omega]
  rfl
theorem limb_sum.pad_here {o : List Int} {i : Nat} (h : i < o.length) : limb_sum.pad o (i + 1) = o := by
  unfold limb_sum.pad
  rw [show i + 1 - o.length = 0 from by omega]
  simp
set_option maxHeartbeats 8000000 in
set_option maxRecDepth 100000 in
theorem limb_sum.calls (k : Nat) (A0 : Option Addr) (c0 : Nat) (l0 : List (List Int)) (r : List Int) (w : World) (hr0 : Kd.C (Kd.slice 36 (Kd.int .u64)) w A0 l0.length l0) (hc0 : l0.length ≤ c0) (h : limb_sum.f k l0 = some r) :
    Calls Try.prog 37 #[.slice A0 l0.length c0] w fun e w' => ∃ v0_ : Value, e = .returned (v0_) ∧ Kd.R (Kd.int .u64) 36 w' w.heap.size (fun _ => True) v0_ r ∧ Below w.heap.size w w' := by
  have HR0 := Aside0.mk hr0
  have HC0 := Aside0.mk hc0
  clear hr0 hc0
  unfold limb_sum.f at h
  replace h := Option.bind_eq_some_iff.mp h
  obtain ⟨o, ho, h⟩ := h
  replace h := Option.bind_eq_some_iff.mp h
  obtain ⟨t, ht, h⟩ := h
  replace h := Option.bind_eq_some_iff.mp h
  obtain ⟨r', hr', h⟩ := h
  obtain rfl := Option.some.inj h
  have HO := Aside0.mk ho
  have HT := Aside0.mk ht
  have HR' := Aside0.mk hr'
  clear ho ht hr' h
  have hmx : (l0.length : Int) ≤ 9223372036854775807 := by have := HR0.out.2.1; omega
  go_enter Try.func37, Try.ntmps37
  go_wp2_with fail
  go_loopg [13] l0.length (fun kq v13 wr => ∃ (j : Nat) (out : List Int) (vo : Value), v13 = .int .i64 j ∧ Aside0 (j + kq = l0.length) ∧ Aside0 (limb_sum.l1 k (l0.drop j) j out = some o) ∧ Aside0 (wr.heap[w.heap.size]? = some (.cells #[vo] 22 (0, 0))) ∧ Aside0 (Kd.R (Kd.int .u64) 36 wr w.heap.size (fun k_ => k_ ≠ w.heap.size) vo out) ∧ Aside0 (Below w.heap.size w wr))
  case atStart =>
    exact ⟨0, [], _, rfl, ⟨by omega⟩, HO, ⟨blk_new w _⟩, ⟨Kd.R_nil _ _ _ _ _⟩, ⟨below_alloc (Below.refl _ _) _⟩⟩
  case round =>
    obtain ⟨j, out, vo, rfl, HI, HL, HX, HRo, HB⟩ := hrel
    have hcx : wr.cell? ⟨w.heap.size, 0, none⟩ = some vo := (blk_cell HX.out 0).trans rfl
    obtain ⟨Ao, co, evo⟩ := Kd.R_slice HRo.out
    subst evo
    cases gk with
    | zero =>
      obtain rfl : j = l0.length := by have := HI.out; omega
      have hl := HL.out
      rw [List.drop_length, limb_sum.l1] at hl
      obtain rfl := Option.some.inj hl
      clear hl
      go_wp2_with fail
      refine (limb_trim.own k _ _ _ _ out t _ HRo.out HT.out).mono ?_
      rintro e w3 ⟨v, rfl, ho, hb⟩
      obtain ⟨Av, cv, ev⟩ := Kd.R_slice ho
      subst ev
      have HO4 := Aside0.mk ho
      have HB4 := Aside0.mk (below_step HB.out hb)
      clear ho hb
      go_wp2_with fail
      refine (slices_Clone_uint64_uint64.calls _ _ t r' _ (Kd.R_reads' HO4.out).2.2 (Kd.R_reads' HO4.out).2.1 HR'.out).mono ?_
      rintro e w4 ⟨v, rfl, ho, hb⟩
      have HO5 := Aside0.mk ho
      have HB5 := Aside0.mk (below_step HB4.out hb)
      have HB6 := HB4
      clear ho hb
      go_wp2
      go_ret
      exact ⟨_, rfl, Kd.R_lower HO5.out (below_size HB6.out), HB5.out⟩
    | succ d =>
      have hjl : j < l0.length := by have := HI.out; omega
      obtain ⟨ad, cs, e1, hcl, hK, hcs⟩ := Kd.C_get HR0.out [] (j : Int) (by omega) (by omega)
      cases e1
      obtain ⟨Ar, cr, ecs, hrl, hC⟩ := hK
      subst ecs
      rw [Int.toNat_natCast] at hrl hC hcs
      obtain ⟨row, hrow⟩ : ∃ row, l0.getD j [] = row := ⟨_, rfl⟩
      rw [hrow] at hrl hC hcs
      have hcell0 := hcs 0 _ rfl
      rw [show j * (Kd.slice 36 (Kd.int .u64)).sz + 0 = j from by show j * 1 + 0 = j; omega] at hcell0
      have hcell := (HB.out.cell (World.block_lt_of_cell? w _ hcell0)).trans hcell0
      clear hcell0
      have hl := HL.out
      rw [List.drop_eq_getElem_cons hjl] at hl
      have hrow2 : l0[j] = row := by rw [← hrow, List.getD_eq_getElem?_getD, List.getElem?_eq_getElem hjl]; rfl
      rw [hrow2, limb_sum.l1] at hl
      replace hl := Option.bind_eq_some_iff.mp hl
      obtain ⟨tr, htr, hl⟩ := hl
      have HTR := Aside0.mk htr
      have HLR := Aside0.mk hl
      have HRC := Aside0.mk hC
      have HRL := Aside0.mk hrl
      have HROW := Aside0.mk hrow
      clear htr hl hC hrl hrow hrow2 hcs hcl
      have hjl' : (j : Int) < (l0.length : Int) := by omega
      have hj0 : (0 : Int) ≤ (j : Int) := by omega
      go_wp2_with fail
      refine (limb_trim.read k Ar cr row tr wr (Kd.C_below HRC.out HB.out) HRL.out HTR.out).mono ?_
      rintro e w1 ⟨rfl, htk, rfl⟩
      have HTC := Aside0.mk (limb_sum.c_take HRC.out htk)
      have HTK := Aside0.mk htk
      clear htk hcell
      have HLR2 := HLR.out
      by_cases hbd : j + tr.length < 17592186044415
      · rw [if_pos hbd] at HLR2
        replace HLR2 := Option.bind_eq_some_iff.mp HLR2
        obtain ⟨p, hp3, HLR2⟩ := HLR2
        replace HLR2 := Option.bind_eq_some_iff.mp HLR2
        obtain ⟨o4, hp4, HLR2⟩ := HLR2
        have HP3 := Aside0.mk hp3
        have HP4 := Aside0.mk hp4
        have HP1 := Aside0.mk HLR2
        clear hp3 hp4 HLR2 HLR
        go_wp2_with fail
        go_loopg [] (j + tr.length - out.length) (fun kq wr2 => ∃ (out2 : List Int) (vo2 : Value), Aside0 (out2 = limb_sum.pad out out2.length ∧ out.length ≤ out2.length ∧ kq = j + tr.length - out2.length ∧ (out2.length ≤ j + tr.length ∨ out2.length = out.length)) ∧ Aside0 (wr2.heap[w.heap.size]? = some (.cells #[vo2] 22 (0, 0))) ∧ Aside0 (Kd.R (Kd.int .u64) 36 wr2 w.heap.size (fun k_ => k_ ≠ w.heap.size) vo2 out2) ∧ Aside0 (Below w.heap.size w wr2))
        case atStart => exact ⟨out, _, ⟨by simp [limb_sum.pad], Nat.le_refl _, rfl, .inr rfl⟩, HX, HRo, HB⟩
        case round =>
          obtain ⟨out2, vo2, HN, HX, HRo, HB⟩ := hrel
          obtain ⟨Ao2, co2, evo⟩ := Kd.R_slice HRo.out
          subst evo
          have hcx2 : wr.cell? ⟨w.heap.size, 0, none⟩ = some (.slice Ao2 out2.length co2) := (blk_cell HX.out 0).trans rfl
          by_cases hlt : out2.length < j + tr.length
          · have hlt' : (out2.length : Int) < (j : Int) + (tr.length : Int) := by omega
            have HBD := Aside0.mk hbd
            go_wp2_with ((with_reducible refine gate_builtin (b := .append) (xs := #[.tmp 27, .tmp 28]) rfl ?_); at_builtin; refine Kd.R_append (Kd.int .u64) (w0 := w) w.heap.size rfl (.tmp 27) (.tmp 28) 22 36 (.int .u64 0) 8 rfl Try.underlying22 info36 rfl (by decide) (by omega) (.slice Ao2 out2.length co2) out2 0 [.int .u64 0] (fun k_ => k_ ≠ w.heap.size) (fun _ => False) rfl rfl ?aP (fun _ hk => hk.elim) ?aF ?aO ?aB ?aS ?aL ?_)
            case aP => exact rfl
            case aF => exact fun k_ hk => by have := below_size HB.out; have := blk_lt HX.out; omega
            case aO => exact HRo.out
            case aB => exact HB.out
            case aS => exact below_size HB.out
            case aL => have := HBD.out; omega
            intro v1 w1 ho hb hg hat
            clear hat
            obtain ⟨out3, h3⟩ : ∃ l : List Int, l = out2 ++ [0] := ⟨_, rfl⟩
            rw [← h3] at ho
            have hl3 : out3.length = out2.length + 1 := by rw [h3]; simp
            have HN3 := Aside0.mk (show out3 = limb_sum.pad out out3.length ∧ out.length ≤ out3.length ∧ out3.length ≤ j + tr.length ∧ j + tr.length - out3.length < gk from by
              obtain ⟨h1, h2, h4, h5⟩ := HN.out
              refine ⟨?_, by omega, by omega, by omega⟩
              rw [hl3, h3]
              exact limb_sum.pad_succ h1 h2)
            clear h3 hl3 hlt HN
            obtain ⟨Av1, cv1, ev1⟩ := Kd.R_slice ho
            subst ev1
            have HX1 := Aside0.mk (blk_grown HX.out hg (fun e_ => HRo.out.1 _ e_.symm rfl))
            have HO1 := Aside0.mk ho
            have HB1 := Aside0.mk hb
            clear ho hb hg
            have hcx3 : w1.cell? ⟨w.heap.size, 0, none⟩ = some (.slice Ao2 out2.length co2) := (blk_cell HX1.out 0).trans rfl
            have hfx3 : w1.frozen? ⟨w.heap.size, 0, none⟩ = false := blk_frozen HX1.out 0
            go_wp2
            go_roundg (j + tr.length - out3.length)
            case measure => exact HN3.out.2.2.2
            case rel =>
              exact ⟨out3, _, ⟨HN3.out.1, HN3.out.2.1, rfl, .inl HN3.out.2.2.1⟩, ⟨blk_put HX1.out 0 _ rfl⟩, ⟨Kd.R_far HO1.out (fun _ hk => hk) _⟩, ⟨below_set HB1.out (Nat.le_refl _)⟩⟩
          · have hlt' : ¬ (out2.length : Int) < (j : Int) + (tr.length : Int) := by omega
            obtain ⟨wp, rfl⟩ : ∃ wp : World, wp = wr := ⟨_, rfl⟩
            have HP3' := Aside0.mk (show limb_sum.l3 (tr.drop 0) out2 (j + 0) 0 = some p from by
              obtain ⟨h1, h2, h3, h4⟩ := HN.out
              have h5 := HP3.out
              rw [limb_sum.pad_done h1 h2 (by omega) h4] at h5
              exact h5)
            have hwb : w.heap.size ≤ wp.heap.size := below_size HB.out
            have hwx : w.heap.size < wp.heap.size := blk_lt HX.out
            have HWB := Aside0.mk (And.intro hwb hwx)
            have HBD := Aside0.mk hbd
            clear hwb hwx hlt HN
            have htl : (tr.length : Int) ≤ 9223372036854775807 := by have := HTC.out.2.1; omega
            go_wp2_with fail
            go_loopg [33] tr.length (fun kq v33 wr => ∃ (i : Nat) (oi : List Int) (ci : Int), v33 = .int .i64 i ∧ Aside0 (i + kq = tr.length) ∧ Aside0 (limb_sum.l3 (tr.drop i) oi (j + i) ci = some p) ∧ Aside0 (wr.heap[w.heap.size]? = some (.cells #[.slice Ao2 out2.length co2] 22 (0, 0))) ∧ Aside0 (wr.heap[wp.heap.size]? = some (.cells #[.int .u64 ci] 36 (0, 0))) ∧ Aside0 (Kd.R (Kd.int .u64) 36 wr w.heap.size (fun k_ => k_ ≠ w.heap.size ∧ k_ ≠ wp.heap.size) (.slice Ao2 out2.length co2) oi) ∧ Aside0 (Below w.heap.size w wr))
            case atStart =>
              refine ⟨0, out2, 0, rfl, ⟨by omega⟩, HP3', ⟨blk_alloc HX.out _⟩, ⟨blk_new wp _⟩, ⟨Kd.R_alloc (Kd.R_mono (Kd.R_bound HRo.out) (fun k_ hk => ⟨hk.1, ?_⟩)) _⟩, ⟨below_alloc HB.out _⟩⟩
              have := hk.2.2.1
              omega
            case round =>
              clear HX HRo HB HP3' hcx2
              obtain ⟨i, oi, ci, rfl, HI3, HL3, HX, HXc, HRo, HB⟩ := hrel
              have hcc : wr.cell? ⟨wp.heap.size, 0, none⟩ = some (.int .u64 ci) := (blk_cell HXc.out 0).trans rfl
              have hcx : wr.cell? ⟨w.heap.size, 0, none⟩ = some (.slice Ao2 out2.length co2) := (blk_cell HX.out 0).trans rfl
              have hfc : wr.frozen? ⟨wp.heap.size, 0, none⟩ = false := blk_frozen HXc.out 0
              cases gk with
              | succ d3 =>
                have hitr : i < tr.length := by have := HI3.out; omega
                have hl := HL3.out
                have hgi : tr.getD i 0 = tr[i] := by rw [List.getD_eq_getElem?_getD, List.getElem?_eq_getElem hitr]; rfl
                rw [List.drop_eq_getElem_cons hitr, ← hgi, limb_sum.l3] at hl
                by_cases hcd : ci ≤ 1 ∧ j + i < oi.length
                · rw [if_pos hcd] at hl
                  have HL4 := Aside0.mk hl
                  have hb1 : decide (ci ≤ 1) = true := decide_eq_true hcd.1
                  have hol : oi.length = out2.length := (Kd.R_reads' HRo.out).1.symm
                  obtain ⟨ga, ca, ea, hga0, hga1, cells, hga2⟩ := Kd.R_form HRo.out (by omega)
                  injection ea with ea_ en_ ec_
                  subst ea_
                  subst ec_
                  have hgn := HRo.out.1 ga rfl
                  have hne : wp.heap.size ≠ ga := fun e_ => hgn.2 e_.symm
                  have HN := Aside0.mk (show w.heap.size ≠ ga ∧ wp.heap.size ≠ ga ∧ w.heap.size ≤ ga from ⟨fun e_ => hgn.1 e_.symm, hne, hga0⟩)
                  obtain ⟨hca, hfa⟩ := Kd.R_celln 0 HRo.out ((j + i : Nat) : Int) (by omega) (by omega)
                  rw [Int.toNat_natCast] at hca hfa
                  replace hca : wr.cell? ⟨ga, j + i, none⟩ = some (.int .u64 (oi.getD (j + i) 0)) := hca
                  obtain ⟨adr, e1, hcb⟩ := Kd.at_int HTC.out (i : Int) (by omega) (by omega)
                  cases e1
                  replace hcb := (HB.out.cell (World.block_lt_of_cell? w _ hcb)).trans hcb
                  rw [Int.toNat_natCast] at hcb
                  have hin : ((j + i : Nat) : Int) < (out2.length : Int) := by omega
                  have hit : (i : Int) < (tr.length : Int) := by omega
                  have hsum : (j : Int) + (i : Int) < 17592186044415 := by have := HBD.out; omega
                  have HST := Aside0.mk (box_step (i := j + i) (s := ad64 (oi.getD (j + i) 0) (rd tr (i : Int)) ci) (c' := ac64 (oi.getD (j + i) 0) (rd tr (i : Int)) ci) HX.out HXc.out HRo.out HB.out HN.out.1 HN.out.2.1 (by have := HWB.out.2; omega) HN.out.2.2 HWB.out.1 (fun k_ hk => hk.2))
                  clear hgn hga0 hga1 hga2 cells en_ hl hcd hgi hol hitr
                  go_wp2_with fail
                  rw [show (j : Int) + (i : Int) = ((j + i : Nat) : Int) from by omega]
                  refine (limb_sum.cl w.heap.size wp.heap.size ga (j + i) out2.length co2 (rd tr (i : Int)) (oi.getD (j + i) 0) ci wr hcx hcc hca hne hfa hfc hin hb1).mono ?_
                  rintro e w' ⟨rfl, rfl⟩
                  go_wp2
                  go_roundg d3
                  case measure => omega
                  case rel => exact ⟨i + 1, _, _, by go_num, ⟨by have := HI3.out; omega⟩, HL4, ⟨HST.out.1⟩, ⟨HST.out.2.1⟩, ⟨HST.out.2.2.1⟩, ⟨HST.out.2.2.2⟩⟩
                · rw [if_neg hcd] at hl
                  cases hl
              | zero =>
                obtain rfl : i = tr.length := by have := HI3.out; omega
                have hl := HL3.out
                rw [List.drop_length, limb_sum.l3] at hl
                obtain rfl := Option.some.inj hl
                clear hl
                have hjt : (j : Int) + (tr.length : Int) < 17592186044415 := by have := HBD.out; omega
                obtain ⟨i0, hi0⟩ : ∃ i0, i0 = j + tr.length := ⟨_, rfl⟩
                have HP4' := Aside0.mk (show limb_sum.l4 k oi i0 ci = some o4 from hi0 ▸ HP4.out)
                go_wp2_with fail
                rw [show (j : Int) + (tr.length : Int) = ((i0 : Nat) : Int) from by omega]
                clear hi0 hjt htl hcc hcx hfc
                go_loopg [10] k (fun kq v10 wr => ∃ (i4 : Nat) (o : List Int) (c : Int) (vo : Value), v10 = .int .i64 i4 ∧ Aside0 (limb_sum.l4 kq o i4 c = some o4) ∧ Aside0 (wr.heap[w.heap.size]? = some (.cells #[vo] 22 (0, 0))) ∧ Aside0 (wr.heap[wp.heap.size]? = some (.cells #[.int .u64 c] 36 (0, 0))) ∧ Aside0 (Kd.R (Kd.int .u64) 36 wr w.heap.size (fun k_ => k_ ≠ w.heap.size ∧ k_ ≠ wp.heap.size) vo o) ∧ Aside0 (Below w.heap.size w wr))
                case atStart => exact ⟨i0, oi, ci, _, rfl, HP4', HX, HXc, HRo, HB⟩
                case round =>
                  clear HX HXc HRo HB HP4'
                  obtain ⟨i4, o, c, vo, rfl, HL4, HX, HXc, HRo, HB⟩ := hrel
                  obtain ⟨Ao4, co4, evo⟩ := Kd.R_slice HRo.out
                  subst evo
                  have hcc : wr.cell? ⟨wp.heap.size, 0, none⟩ = some (.int .u64 c) := (blk_cell HXc.out 0).trans rfl
                  have hcx : wr.cell? ⟨w.heap.size, 0, none⟩ = some (.slice Ao4 o.length co4) := (blk_cell HX.out 0).trans rfl
                  have hfc : wr.frozen? ⟨wp.heap.size, 0, none⟩ = false := blk_frozen HXc.out 0
                  cases gk with
                  | zero => exact absurd HL4.out (by simp [limb_sum.l4])
                  | succ k4 =>
                    have hl := HL4.out
                    rw [limb_sum.l4] at hl
                    by_cases hc0 : 0 < c
                    · rw [if_pos hc0] at hl
                      have hcb0 : decide (0 < c) = true := decide_eq_true hc0
                      by_cases hcd : c ≤ 1 ∧ i4 ≤ o.length ∧ i4 < 17592186044415
                      · rw [if_pos hcd] at hl
                        have hb1 : decide (c ≤ 1) = true := decide_eq_true hcd.1
                        have hi4 : (i4 : Int) < 17592186044415 := by have := hcd.2.2; omega
                        by_cases heq : i4 = o.length
                        · rw [limb_sum.pad_more heq] at hl
                          have heb : ((i4 : Int) == (o.length : Int)) = true := by rw [heq]; simp
                          have heb2 : (i4 == o.length) = true := by rw [heq]; simp
                          obtain ⟨o5, ho5⟩ : ∃ l : List Int, l = o ++ [0] := ⟨_, rfl⟩
                          rw [← ho5] at hl
                          have hol5 : o5.length = o.length + 1 := by rw [ho5]; simp
                          have HL5 := Aside0.mk hl
                          have HEQ := Aside0.mk (show i4 < o5.length ∧ o5.length = o.length + 1 ∧ o.length < 17592186044415 from ⟨by omega, hol5, by omega⟩)
                          have HO5 := Aside0.mk ho5
                          clear hl ho5 hol5 hcd hc0 heq HL4
                          go_wp2_with ((with_reducible refine gate_builtin (b := .append) (xs := #[.tmp 57, .tmp 58]) rfl ?_); at_builtin; refine Kd.R_append (Kd.int .u64) (w0 := w) w.heap.size rfl (.tmp 57) (.tmp 58) 22 36 (.int .u64 0) 8 rfl Try.underlying22 info36 rfl (by decide) (by omega) (.slice Ao4 o.length co4) o 0 [.int .u64 0] (fun k_ => k_ ≠ w.heap.size ∧ k_ ≠ wp.heap.size) (fun _ => False) rfl rfl ?bP (fun _ hk => hk.elim) ?bF ?bO ?bB ?bS ?bL ?_)
                          case bP => exact rfl
                          case bF => exact fun k_ hk => by have := blk_lt HX.out; have := blk_lt HXc.out; omega
                          case bO => exact HRo.out
                          case bB => exact HB.out
                          case bS => exact below_size HB.out
                          case bL => have := HEQ.out; omega
                          intro v1 w1 ho hb hg hat
                          clear hat
                          rw [← HO5.out] at ho
                          obtain ⟨Av1, cv1, ev1⟩ := Kd.R_slice ho
                          subst ev1
                          have HX1 := Aside0.mk (blk_grown HX.out hg (fun e_ => (HRo.out.1 _ e_.symm).1 rfl))
                          have HXc1 := Aside0.mk (blk_grown HXc.out hg (fun e_ => (HRo.out.1 _ e_.symm).2 rfl))
                          have HR1 := Aside0.mk ho
                          have HB1 := Aside0.mk hb
                          clear ho hb hg
                          have hcx3 : w1.cell? ⟨w.heap.size, 0, none⟩ = some (.slice Ao4 o.length co4) := (blk_cell HX1.out 0).trans rfl
                          have hfx3 : w1.frozen? ⟨w.heap.size, 0, none⟩ = false := blk_frozen HX1.out 0
                          go_wp2_with fail
                          have HX2 := Aside0.mk (blk_put (cs' := #[.slice Av1 o5.length cv1]) HX1.out 0 (.slice Av1 o5.length cv1) rfl)
                          have HXc2 := Aside0.mk (blk_far HXc1.out (p := ⟨w.heap.size, 0, none⟩) (by have := HWB.out.2; simp; omega) (.slice Av1 o5.length cv1))
                          have HR2 := Aside0.mk (Kd.R_far HR1.out (p := ⟨w.heap.size, 0, none⟩) (fun _ hk => hk.1) (.slice Av1 o5.length cv1))
                          have HB2 := Aside0.mk (below_set (j := 0) (v := .slice Av1 o5.length cv1) HB1.out (Nat.le_refl w.heap.size))
                          generalize w1.setCell ⟨w.heap.size, 0, none⟩ (.slice Av1 o5.length cv1) = w2 at HX2 HXc2 HR2 HB2 ⊢
                          clear HX1 HXc1 HR1 HB1 hcx3 hfx3 HX HXc HRo HB hcc hcx hfc
                          have hcc : w2.cell? ⟨wp.heap.size, 0, none⟩ = some (.int .u64 c) := (blk_cell HXc2.out 0).trans rfl
                          have hcx : w2.cell? ⟨w.heap.size, 0, none⟩ = some (.slice Av1 o5.length cv1) := (blk_cell HX2.out 0).trans rfl
                          have hfc : w2.frozen? ⟨wp.heap.size, 0, none⟩ = false := blk_frozen HXc2.out 0
                          obtain ⟨ga, ca, ea, hga0, hga1, cells, hga2⟩ := Kd.R_form HR2.out (by have := HEQ.out.1; omega)
                          injection ea with ea_ en_ ec_
                          subst ea_
                          subst ec_
                          have hgn := HR2.out.1 ga rfl
                          have hne : wp.heap.size ≠ ga := fun e_ => hgn.2 e_.symm
                          have HN := Aside0.mk (show w.heap.size ≠ ga ∧ wp.heap.size ≠ ga ∧ w.heap.size ≤ ga from ⟨fun e_ => hgn.1 e_.symm, hne, hga0⟩)
                          obtain ⟨hca, hfa⟩ := Kd.R_celln 0 HR2.out (i4 : Int) (by omega) (by have := HEQ.out.1; omega)
                          rw [Int.toNat_natCast] at hca hfa
                          replace hca : w2.cell? ⟨ga, i4, none⟩ = some (.int .u64 (o5.getD i4 0)) := hca
                          have hin : (i4 : Int) < (o5.length : Int) := by have := HEQ.out.1; omega
                          have HST := Aside0.mk (box_step (i := i4) (s := ad64 (o5.getD i4 0) 0 c) (c' := ac64 (o5.getD i4 0) 0 c) HX2.out HXc2.out HR2.out HB2.out HN.out.1 HN.out.2.1 (by have := HWB.out.2; omega) HN.out.2.2 HWB.out.1 (fun k_ hk => hk.2))
                          clear hgn hga0 hga1 hga2 cells en_
                          refine (limb_sum.cl w.heap.size wp.heap.size ga i4 o5.length cv1 0 (o5.getD i4 0) c w2 hcx hcc hca hne hfa hfc hin hb1).mono ?_
                          rintro e w' ⟨rfl, rfl⟩
                          go_wp2
                          go_roundg k4
                          case measure => omega
                          case rel => exact ⟨i4 + 1, _, _, _, by go_num, HL5, ⟨HST.out.1⟩, ⟨HST.out.2.1⟩, ⟨HST.out.2.2.1⟩, ⟨HST.out.2.2.2⟩⟩
                        · have hlt4 : i4 < o.length := by have := hcd.2.1; omega
                          rw [limb_sum.pad_here hlt4] at hl
                          have heb : ((i4 : Int) == (o.length : Int)) = false := beq_eq_false_iff_ne.mpr (by omega)
                          have heb2 : (i4 == o.length) = false := beq_eq_false_iff_ne.mpr heq
                          have HL5 := Aside0.mk hl
                          obtain ⟨ga, ca, ea, hga0, hga1, cells, hga2⟩ := Kd.R_form HRo.out (by omega)
                          injection ea with ea_ en_ ec_
                          subst ea_
                          subst ec_
                          have hgn := HRo.out.1 ga rfl
                          have hne : wp.heap.size ≠ ga := fun e_ => hgn.2 e_.symm
                          have HN := Aside0.mk (show w.heap.size ≠ ga ∧ wp.heap.size ≠ ga ∧ w.heap.size ≤ ga from ⟨fun e_ => hgn.1 e_.symm, hne, hga0⟩)
                          obtain ⟨hca, hfa⟩ := Kd.R_celln 0 HRo.out (i4 : Int) (by omega) (by omega)
                          rw [Int.toNat_natCast] at hca hfa
                          replace hca : wr.cell? ⟨ga, i4, none⟩ = some (.int .u64 (o.getD i4 0)) := hca
                          have hin : (i4 : Int) < (o.length : Int) := by omega
                          have HST := Aside0.mk (box_step (i := i4) (s := ad64 (o.getD i4 0) 0 c) (c' := ac64 (o.getD i4 0) 0 c) HX.out HXc.out HRo.out HB.out HN.out.1 HN.out.2.1 (by have := HWB.out.2; omega) HN.out.2.2 HWB.out.1 (fun k_ hk => hk.2))
                          clear hgn hga0 hga1 hga2 cells en_ hl hcd hc0 heq hlt4 HL4
                          go_wp2_with fail
                          refine (limb_sum.cl w.heap.size wp.heap.size ga i4 o.length co4 0 (o.getD i4 0) c wr hcx hcc hca hne hfa hfc hin hb1).mono ?_
                          rintro e w' ⟨rfl, rfl⟩
                          go_wp2
                          go_roundg k4
                          case measure => omega
                          case rel => exact ⟨i4 + 1, _, _, _, by go_num, HL5, ⟨HST.out.1⟩, ⟨HST.out.2.1⟩, ⟨HST.out.2.2.1⟩, ⟨HST.out.2.2.2⟩⟩
                      · rw [if_neg hcd] at hl
                        cases hl
                    · rw [if_neg hc0] at hl
                      have hcb0 : decide (0 < c) = false := decide_eq_false hc0
                      have HE := Aside0.mk (Option.some.inj hl)
                      clear hl hc0 HL4
                      go_wp2
                      go_roundg d
                      case measure => omega
                      case rel => exact ⟨j + 1, o, _, by go_num, ⟨by have := HI.out; omega⟩, ⟨by rw [HE.out]; exact HP1.out⟩, HX, ⟨Kd.R_mono HRo.out (fun _ hk => hk.1)⟩, HB⟩
      · rw [if_neg hbd] at HLR2
        cases HLR2

end Go.Proofs.Ytdknpbabdkjhfaa.POLimbTrim
