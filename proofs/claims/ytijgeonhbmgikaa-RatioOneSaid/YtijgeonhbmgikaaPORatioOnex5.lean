-- Written by a program of this session (pr.py, over the kit's print.py).
import Derived.Test.YtijgeonhbmgikaaPORatioOnex0
import Derived.Test.YtijgeonhbmgikaaPORatioOnex2
namespace Go.Proofs.Ytijgeonhbmgikaa.PORatioOne
open Go.RowKit Go.Proofs.YtijgeonhbmgikaaN Go.Proofs.YtijgeonhbmgikaaW.PrintWords Go.Proofs.YtijgeonhbmgikaaW.PrintLast Go.Proofs.YtijgeonhbmgikaaW.PrintMore
attribute [local go_sem] max2_int min2_int max_two min_two max_three min_three max_four min_four   -- for this text's walks alone
set_option linter.unusedVariables false
set_option linter.unusedSimpArgs false

/-! ### limb_Shift: function 100 -/
mutual
def limb_Shift.j0 : Nat → List Int → Int → Bool → Option (List Int)
 | 0, _, _, _ => none
 | k + 1, x0, x1, x27 => if x27 = true then (some ([] : List Int)) else (if 0 ≤ (wrap64 (Int.tdiv x1 64)) then (if (wrap64 (Int.tdiv x1 64)) ≤ (x0.length : Int) then ((slices_Clone_uint64_uint64.f (x0.drop ((wrap64 (Int.tdiv x1 64)) : Int).toNat)).bind fun t213 => (limb_Shift.l0 k t213 (Int.tmod x1 64) (t213.length : Int) 0)) else (none)) else (none))
def limb_Shift.l0 : Nat → List Int → Int → Int → Int → Option (List Int)
 | 0, _, _, _, _ => none
 | k + 1, x5, x6, x36, x37 => if x37 < x36 then (if 0 ≤ x37 then (if x37 < (x5.length : Int) then (if 0 ≤ x6 then ((some (x5.set (x37 : Int).toNat (shr .u64 (rd x5 x37) x6) : List Int)).bind fun y217 => (if (wrap64 (x37 + 1)) < (x5.length : Int) then (if x6 > 0 then (if 0 ≤ (wrap64 (x37 + 1)) then (if 0 ≤ (wrap64 (64 - x6)) then (limb_Shift.l0 k (y217.set (x37 : Int).toNat (Go.bits .or .u64 (rd y217 x37) (shl .u64 (rd y217 (wrap64 (x37 + 1))) (wrap64 (64 - x6))))) x6 x36 (wrap64 (x37 + 1))) else (none)) else (none)) else (limb_Shift.l0 k y217 x6 x36 (wrap64 (x37 + 1)))) else (limb_Shift.l0 k y217 x6 x36 (wrap64 (x37 + 1))))) else (none)) else (none)) else (none)) else ((limb_trim.f k x5).bind fun t221 => (some t221))
def limb_Shift.l1 : Nat → Int → List Int → Int → List Int → Int → Int → Option (List Int)
 | 0, _, _, _, _, _, _ => none
 | k + 1, x1, x8, x9, x84, x85, x86 => if x86 < x85 then (if 0 ≤ x86 then (if x86 < (x84.length : Int) then (if 0 ≤ (Int.tmod x1 64) then (if x8.length < 17592186044416 then (if 0 ≤ (wrap64 (63 - (Int.tmod x1 64))) then (limb_Shift.l1 k x1 (x8 ++ [Go.bits .or .u64 (shl .u64 (rd x84 x86) (Int.tmod x1 64)) x9]) ((shr .u64 (rd x84 x86) (wrap64 (63 - (Int.tmod x1 64)))) / 2) x84 x85 (wrap64 (x86 + 1))) else (none)) else (none)) else (none)) else (none)) else (none)) else (if x8.length < 17592186044416 then ((limb_trim.f k (x8 ++ [x9])).bind fun t234 => ((slices_Clone_uint64_uint64.f t234).bind fun t237 => (some t237))) else (none))
end
def limb_Shift.f (k : Nat) (l0 : List Int) (a1 : Int) : Option (List Int) := (limb_trim.f k l0).bind fun t205 => (if a1 < 0 then (if (wrap64 (-(mx a1 (-100001)))) > 100000 then (limb_Shift.j0 k t205 (wrap64 (-(mx a1 (-100001)))) true) else (limb_Shift.j0 k t205 (wrap64 (-(mx a1 (-100001)))) (decide ((wrap64 (Int.tdiv (wrap64 (-(mx a1 (-100001)))) 64)) ≥ (t205.length : Int))))) else (if 0 ≤ (wrap64 (Int.tdiv (mn a1 1000) 64)) then (if (wrap64 (Int.tdiv (mn a1 1000) 64)) ≤ (wrap64 ((wrap64 ((wrap64 (Int.tdiv (mn a1 1000) 64)) + (t205.length : Int))) + 1)) then (if (wrap64 ((wrap64 ((wrap64 (Int.tdiv (mn a1 1000) 64)) + (t205.length : Int))) + 1) : Int).toNat ≤ 35184372088832 then (limb_Shift.l1 k (mn a1 1000) (List.replicate (wrap64 (Int.tdiv (mn a1 1000) 64) : Int).toNat 0) 0 t205 (t205.length : Int) 0) else (none)) else (none)) else (none)))
theorem limb_Shift.mono_l : ∀ k, (∀ y0 y1 y2, LeO (limb_Shift.j0 k y0 y1 y2) (limb_Shift.j0 (k + 1) y0 y1 y2)) ∧ (∀ y0 y1 y2 y3, LeO (limb_Shift.l0 k y0 y1 y2 y3) (limb_Shift.l0 (k + 1) y0 y1 y2 y3)) ∧ (∀ y0 y1 y2 y3 y4 y5, LeO (limb_Shift.l1 k y0 y1 y2 y3 y4 y5) (limb_Shift.l1 (k + 1) y0 y1 y2 y3 y4 y5))
 | 0 => ⟨fun _ _ _ r h => by simp [limb_Shift.j0] at h, fun _ _ _ _ r h => by simp [limb_Shift.l0] at h, fun _ _ _ _ _ _ r h => by simp [limb_Shift.l1] at h⟩
 | k + 1 => by
  obtain ⟨ih0, ih1, ih2⟩ := limb_Shift.mono_l k
  refine ⟨?_, ?_, ?_⟩
  ·
   intro y0 y1 y2
   unfold limb_Shift.j0
   repeat' first
   | (with_reducible exact ih0 _ _ _)
   | (with_reducible exact ih1 _ _ _ _)
   | (with_reducible exact ih2 _ _ _ _ _ _)
   | (with_reducible exact limb_trim.mono _ _)
   | (with_reducible exact LeO.refl _)
   | (with_reducible exact LeO.none _)
   | (with_reducible refine LeO.ite ?_ ?_)
   | (with_reducible refine LeO.bind ?_ (fun _ => ?_))
  ·
   intro y0 y1 y2 y3
   unfold limb_Shift.l0
   repeat' first
   | (with_reducible exact ih0 _ _ _)
   | (with_reducible exact ih1 _ _ _ _)
   | (with_reducible exact ih2 _ _ _ _ _ _)
   | (with_reducible exact limb_trim.mono _ _)
   | (with_reducible exact LeO.refl _)
   | (with_reducible exact LeO.none _)
   | (with_reducible refine LeO.ite ?_ ?_)
   | (with_reducible refine LeO.bind ?_ (fun _ => ?_))
  ·
   intro y0 y1 y2 y3 y4 y5
   unfold limb_Shift.l1
   repeat' first
   | (with_reducible exact ih0 _ _ _)
   | (with_reducible exact ih1 _ _ _ _)
   | (with_reducible exact ih2 _ _ _ _ _ _)
   | (with_reducible exact limb_trim.mono _ _)
   | (with_reducible exact LeO.refl _)
   | (with_reducible exact LeO.none _)
   | (with_reducible refine LeO.ite ?_ ?_)
   | (with_reducible refine LeO.bind ?_ (fun _ => ?_))
theorem limb_Shift.mono : ∀ a0 a1 k, LeO (limb_Shift.f k a0 a1) (limb_Shift.f (k + 1) a0 a1) := by
 intro a0 a1 k
 obtain ⟨ih0, ih1, ih2⟩ := limb_Shift.mono_l k
 unfold limb_Shift.f
 repeat' first
   | (with_reducible exact ih0 _ _ _)
   | (with_reducible exact ih1 _ _ _ _)
   | (with_reducible exact ih2 _ _ _ _ _ _)
   | (with_reducible exact limb_trim.mono _ _)
   | (with_reducible exact LeO.refl _)
   | (with_reducible exact LeO.none _)
   | (with_reducible refine LeO.ite ?_ ?_)
   | (with_reducible refine LeO.bind ?_ (fun _ => ?_))
def limb_Shift.T12 : Bool × List (List Nat × List Nat) := (true, [([], []), ([], []), ([0, 1], [0, 1]), ([2], [2]), ([], []), ([], []), ([5], [5]), ([4, 6], [4, 6]), ([7], [7]), ([], []), ([9], [9]), ([8, 10], [8, 10]), ([3, 11], [3, 11]), ([0, 1, 0, 1, 2, 3, 4, 5, 6, 7, 8, 9, 10, 11, 12], [0, 1]), ([13, 12, 0, 1, 2, 3, 4, 5, 6, 7, 8, 9, 10, 11, 12], [12, 13])])
def limb_Shift.B12 : List Nat := [0, 0, 3, 7, 0, 0, 32, 112, 240, 0, 512, 2032, 4095, 8191, 16383]
theorem limb_Shift.tab12 : rtab .any (opsOf Try.f100 12) = limb_Shift.T12 := by kernel_rfl
theorem limb_Shift.bits12 : waitsOk limb_Shift.T12.2 limb_Shift.B12 = true := by kernel_rfl
def limb_Shift.T21 : Bool × List (List Nat × List Nat) := (true, [([], []), ([], []), ([], []), ([2], [2]), ([1, 3], [1, 3]), ([], []), ([4, 5], [4, 5]), ([6], [6]), ([0, 7], [0, 7]), ([], []), ([], []), ([10], [10]), ([11], [11]), ([9, 12], [9, 12]), ([13], [13]), ([8, 8, 0, 1, 2, 3, 4, 5, 6, 7, 8], [0, 8]), ([14, 15, 0, 1, 2, 3, 4, 5, 6, 7, 8, 9, 10, 11, 12, 13, 14, 15], [5, 14])])
def limb_Shift.B21 : List Nat := [0, 0, 0, 4, 14, 0, 62, 126, 255, 0, 0, 1024, 3072, 7680, 15872, 511, 65535]
theorem limb_Shift.tab21 : rtab .any (opsOf Try.f100 21) = limb_Shift.T21 := by kernel_rfl
theorem limb_Shift.bits21 : waitsOk limb_Shift.T21.2 limb_Shift.B21 = true := by kernel_rfl
set_option maxHeartbeats 8000000 in
set_option maxRecDepth 100000 in
theorem limb_Shift.calls (k : Nat) (A0 : Option Addr) (c0 : Nat) (l0 : List Int) (a1 : Int) (r : List Int) (w : World) (hr0 : Kd.C (Kd.int .u64) w A0 l0.length l0) (hc0 : l0.length ≤ c0) (h : limb_Shift.f k l0 a1 = some r) :
  Calls Try.prog 100 #[.slice A0 l0.length c0, .int .i64 a1] w fun e w' => ∃ v0_ : Value, e = .returned (v0_) ∧ Kd.R (Kd.int .u64) 22 w' w.heap.size (fun _ => True) v0_ r ∧ Below w.heap.size w w' := by
 obtain ⟨P0_, hP0_⟩ : ∃ P0_ : Nat → Prop, ∀ k, P0_ k := ⟨fun _ => True, fun _ => trivial⟩
 have hs0 : Kd.V (Kd.int .u64) 22 w w.heap.size (fun k_ => P0_ k_) (.slice A0 l0.length c0) l0 := Kd.V_mk hc0 (fun W' hb => (Kd.heap_int .u64).C (fun k hk => hb k (hP0_ k) hk) hr0)
 clear hr0 hc0 hP0_
 have HO0 := Aside0.mk (show Kd.V (Kd.int .u64) 22 w w.heap.size (fun k_ => (P0_ k_ ∨ w.heap.size ≤ k_)) (.slice A0 l0.length c0) l0 from Kd.V_mono hs0 (fun k_ hk => .inl hk))
 have HB := Aside0.mk (Below.refl w.heap.size w)
 have H : ((limb_trim.f k l0).bind fun t205 => (if a1 < 0 then (if (wrap64 (-(mx a1 (-100001)))) > 100000 then (limb_Shift.j0 k t205 (wrap64 (-(mx a1 (-100001)))) true) else (limb_Shift.j0 k t205 (wrap64 (-(mx a1 (-100001)))) (decide ((wrap64 (Int.tdiv (wrap64 (-(mx a1 (-100001)))) 64)) ≥ (t205.length : Int))))) else (if 0 ≤ (wrap64 (Int.tdiv (mn a1 1000) 64)) then (if (wrap64 (Int.tdiv (mn a1 1000) 64)) ≤ (wrap64 ((wrap64 ((wrap64 (Int.tdiv (mn a1 1000) 64)) + (t205.length : Int))) + 1)) then (if (wrap64 ((wrap64 ((wrap64 (Int.tdiv (mn a1 1000) 64)) + (t205.length : Int))) + 1) : Int).toNat ≤ 35184372088832 then (limb_Shift.l1 k (mn a1 1000) (List.replicate (wrap64 (Int.tdiv (mn a1 1000) 64) : Int).toNat 0) 0 t205 (t205.length : Int) 0) else (none)) else (none)) else (none)))) = some r := h
 clear h
 replace H := Option.bind_eq_some_iff.mp H
 obtain ⟨t205, A30, H⟩ := H
 replace H : (if a1 < 0 then (if (wrap64 (-(mx a1 (-100001)))) > 100000 then (limb_Shift.j0 k t205 (wrap64 (-(mx a1 (-100001)))) true) else (limb_Shift.j0 k t205 (wrap64 (-(mx a1 (-100001)))) (decide ((wrap64 (Int.tdiv (wrap64 (-(mx a1 (-100001)))) 64)) ≥ (t205.length : Int))))) else (if 0 ≤ (wrap64 (Int.tdiv (mn a1 1000) 64)) then (if (wrap64 (Int.tdiv (mn a1 1000) 64)) ≤ (wrap64 ((wrap64 ((wrap64 (Int.tdiv (mn a1 1000) 64)) + (t205.length : Int))) + 1)) then (if (wrap64 ((wrap64 ((wrap64 (Int.tdiv (mn a1 1000) 64)) + (t205.length : Int))) + 1) : Int).toNat ≤ 35184372088832 then (limb_Shift.l1 k (mn a1 1000) (List.replicate (wrap64 (Int.tdiv (mn a1 1000) 64) : Int).toNat 0) 0 t205 (t205.length : Int) 0) else (none)) else (none)) else (none))) = some r := H
 have A3 := Aside0.mk A30
 clear A30
 by_cases c4 : a1 < 0
 ·
  rw [if_pos c4] at H
  have c4b0 : decide (a1 < 0) = true := decide_eq_true c4
  clear c4
  obtain ⟨ji5, hji5⟩ : ∃ j_ : Int, (mx a1 (-100001)) = j_ := ⟨_, rfl⟩
  replace H : (if (wrap64 (-(ji5))) > 100000 then (limb_Shift.j0 k t205 (wrap64 (-(ji5))) true) else (limb_Shift.j0 k t205 (wrap64 (-(ji5))) (decide ((wrap64 (Int.tdiv (wrap64 (-(ji5))) 64)) ≥ (t205.length : Int))))) = some r := by first | (rw [hji5] at H; exact H) | (simp only [hji5] at H ⊢; exact H)
  (try rw [hji5] at A3)
  have hji5_ : (if a1 < (-100001) then (-100001) else a1) = ji5 := hji5
  have HC6 := Aside0.mk H
  clear H
  go_enter Try.func100, Try.ntmps100
  go_upto_region 4 with (first | ((with_reducible refine gate_callee (f := 110) rfl ?_); refine goesL_ (some 13) rfl rfl Try.func110 (by kernel_rfl) rfl #[.slice A0 l0.length c0] rfl mt_ ?_; (with_reducible refine (limb_trim.calls k (fun k_ => (P0_ k_ ∨ w.heap.size ≤ k_)) _ _ l0 t205 _ ?side1 A3.out).mono ?_); (case side1 => exact HO0.out); rintro e w7 ⟨v206, rfl, ho0, hb⟩; refine ⟨_, rfl, ?_⟩; have n0_ := Aside0.mk (Kd.V_below (rV_ HO0) hb); have n1_ := Aside0.mk (Kd.V_lower (Kd.V_mono (ok' := fun k_ => (P0_ k_ ∨ w.heap.size ≤ k_)) ho0 (fun k_ hk_ => Or.elim hk_ (fun hs_ => hs_) (fun hn_ => (.inr (Nat.le_trans (below_size (bb_ HB)) hn_))))) (below_size (bb_ HB))); have n2_ := Aside0.mk (below_step (bb_ HB) hb); clear HO0; clear HB; have HO0 := n0_; have HO207 := n1_; have HB := n2_; clear n0_ n1_ n2_; (try clear hb); (try clear hb2); (try clear hk); (try clear hi); (try clear ho0)))
  (try simp only [Act.put, ss_])
  go_cut [27] (fun v27 wc => ∃ (kq : Nat) (x27_5 : Bool), v27 = .bool x27_5 ∧ Aside0 (limb_Shift.j0 kq t205 (wrap64 (-(ji5))) x27_5 = some r) ∧ Aside0 (kq ≤ k) ∧ Aside0 (Kd.V (Kd.int .u64) 22 wc w.heap.size (fun k_ => (P0_ k_ ∨ w.heap.size ≤ k_)) v206 t205) ∧ Aside0 (Below w.heap.size w wc))
  case first =>
   have H := HC6.out
   clear HC6
   by_cases c8 : (wrap64 (-(ji5))) > 100000
   ·
    rw [if_pos c8] at H
    have c8b0 : decide (100000 < (wrap64 (-(ji5)))) = true := decide_eq_true c8
    clear c8
    (first | rw [c8b0] | (simp only [i64_w, i32_w]; rw [c8b0]) | skip)
    have H' := Aside0.mk H
    clear H
    go_wp2
    go_meet
    case rel => exact ⟨_, (true), sd_, H', ⟨by first | omega | exact Nat.le_refl _⟩, ⟨by (with_reducible repeat (first | apply Kd.V_alloc | apply Kd.V_drewN | apply Kd.V_drew)); exact HO207.out⟩, ⟨by repeat (first | (with_reducible first | exact HB.out | apply below_alloc | apply pw_below_drewN | apply below_drew1) | exact HB.out)⟩⟩
   ·
    rw [if_neg c8] at H
    have c8b0 : decide (100000 < (wrap64 (-(ji5)))) = false := decide_eq_false c8
    clear c8
    (first | rw [c8b0] | (simp only [i64_w, i32_w]; rw [c8b0]) | skip)
    have H' := Aside0.mk H
    clear H
    obtain ⟨Ao9, co9, eo9⟩ := Kd.V_slice HO207.out
    subst eo9
    go_wp2
    go_meet
    case rel => exact ⟨_, (decide ((wrap64 (Int.tdiv (wrap64 (-(ji5))) 64)) ≥ (t205.length : Int))), (by first | rfl | (simp; done) | (simp only [← hji5] <;> (first | rfl | simp)) | (simp [*]; done)), H', ⟨by first | omega | exact Nat.le_refl _⟩, ⟨by (with_reducible repeat (first | apply Kd.V_alloc | apply Kd.V_drewN | apply Kd.V_drew)); exact HO207.out⟩, ⟨by repeat (first | (with_reducible first | exact HB.out | apply below_alloc | apply pw_below_drewN | apply below_drew1) | exact HB.out)⟩⟩
  case rest =>
   clear HC6
   try clear c1
   try clear p2
   try clear c4
   try clear c4b0
   try clear p6
   try clear c8
   try clear c8b0
   obtain ⟨kq, x27_5, rfl, HA, HJ5, HO_0, HB⟩ := hcut
   cases kq with
   | zero => exact absurd HA.out (by simp [limb_Shift.j0])
   | succ kj5 =>
    have H := HA.out
    clear HA
    simp only [limb_Shift.j0] at H
    by_cases c10 : x27_5 = true
    ·
     subst c10
     have H1 : (some ([] : List Int)) = some r := by rw [if_pos rfl] at H; exact H
     clear H
     have H := H1
     clear H1
     obtain rfl := Option.some.inj H
     go_wp2
     go_ret
     exact ⟨_, by first | rfl | (simp [errW_none, errW_some] <;> rfl) | (simp only [← hji5]; first | rfl | (simp [errW_none, errW_some] <;> rfl)) | (simp [*, errW_none, errW_some] <;> rfl), Kd.R_nil _ _ _ _ _, by repeat (first | (with_reducible first | exact HB.out | apply below_alloc | apply pw_below_drewN | apply below_drew1) | exact HB.out)⟩
    ·
     replace c10 := Bool.eq_false_iff.mpr c10
     subst c10
     have H1 : (if 0 ≤ (wrap64 (Int.tdiv (wrap64 (-(ji5))) 64)) then (if (wrap64 (Int.tdiv (wrap64 (-(ji5))) 64)) ≤ (t205.length : Int) then ((slices_Clone_uint64_uint64.f (t205.drop ((wrap64 (Int.tdiv (wrap64 (-(ji5))) 64)) : Int).toNat)).bind fun t213 => (limb_Shift.l0 kj5 t213 (Int.tmod (wrap64 (-(ji5))) 64) (t213.length : Int) 0)) else (none)) else (none)) = some r := by rw [if_neg (show ¬ (false = true) by decide)] at H; exact H
     clear H
     have H := H1
     clear H1
     obtain ⟨ji11, hji11⟩ : ∃ j_ : Int, (wrap64 (Int.tdiv (wrap64 (-(ji5))) 64)) = j_ := ⟨_, rfl⟩
     replace H : (if 0 ≤ (ji11) then (if (ji11) ≤ (t205.length : Int) then ((slices_Clone_uint64_uint64.f (t205.drop ((ji11) : Int).toNat)).bind fun t213 => (limb_Shift.l0 kj5 t213 (Int.tmod (wrap64 (-(ji5))) 64) (t213.length : Int) 0)) else (none)) else (none)) = some r := by first | (rw [hji11] at H; exact H) | (simp only [hji11] at H ⊢; exact H)
     have hji11w : (IntKind.i64.wrap (Int.tdiv (wrap64 (-(ji5))) 64)) = ji11 := (i64_w _).trans hji11
     by_cases c12 : 0 ≤ (ji11)
     ·
      rw [if_pos c12] at H
      have c12b0 := eq_true c12
      have c12b1 : decide (0 ≤ (ji11)) = true := decide_eq_true c12
      clear c12
      by_cases c13 : (ji11) ≤ (t205.length : Int)
      ·
       rw [if_pos c13] at H
       have c13b0 := eq_true c13
       have c13b1 : decide ((ji11) ≤ (t205.length : Int)) = true := decide_eq_true c13
       clear c13
       obtain ⟨y208, hy208⟩ : ∃ y_ : List Int, y_ = (t205.drop ((ji11) : Int).toNat) := ⟨_, rfl⟩
       replace H : ((slices_Clone_uint64_uint64.f y208).bind fun t213 => (limb_Shift.l0 kj5 t213 (Int.tmod (wrap64 (-(ji5))) 64) (t213.length : Int) 0)) = some r := by first | (rw [hy208]; with_reducible exact H) | (have H2_ := (Option.bind_some _ _).symm.trans H; rw [hy208]; with_reducible exact H2_) | (have H2_ := (Option.bind_some _ _).symm.trans H; with_reducible exact H2_) | with_reducible exact H | (rw [hy208]; exact H) | exact H
       have Ny208 := Aside0.mk hy208
       clear hy208
       replace H := Option.bind_eq_some_iff.mp H
       obtain ⟨t213, A140, H⟩ := H
       replace H : (limb_Shift.l0 kj5 t213 (Int.tmod (wrap64 (-(ji5))) 64) (t213.length : Int) 0) = some r := H
       have A14 := Aside0.mk A140
       clear A140
       obtain ⟨ji15, hji15⟩ : ∃ j_ : Int, (Int.tmod (wrap64 (-(ji5))) 64) = j_ := ⟨_, rfl⟩
       replace H : (limb_Shift.l0 kj5 t213 ji15 (t213.length : Int) 0) = some r := by first | (rw [hji15] at H; exact H) | (simp only [hji15] at H ⊢; exact H)
       (try rw [hji15] at A14)
       have H' := Aside0.mk H
       clear H
       obtain ⟨Ao17, co17, eo17⟩ := Kd.V_slice HO_0.out
       subst eo17
       have q16 : ((ji11) : Int) ≤ ((t205.length : Int) : Int) := of_decide_eq_true am_
       obtain ⟨i016, hi016, _, hsz16, _⟩ := info_parts info22
       have hroom16 : t205.length ≤ co17 := (Kd.V_reads' HO_0.out).2.1
       have hC16 : Kd.F (Kd.int .u64) _ _ Ao17 t205.length t205 := (Kd.V_at (base := w.heap.size) HO_0.out).2.2
       have q016 : (0 : Int) ≤ ((ji11) : Int) := of_decide_eq_true am_
       have hcut16 := cut_from (P := Try.prog) 35 22 .i64 Try.underlying35 hi016 1 hsz16 Ao17 t205.length co17 (ji11) q016 q16
       have hr16 := Kd.F_cut (m := ((ji11) : Int).toNat) (c := co17) hC16 (by omega) hroom16
       obtain ⟨A16, hA16⟩ : ∃ A1, A1 = (if co17 = ((ji11) : Int).toNat then Ao17 else (Ao17 : Option Addr).map (·.add (((ji11) : Int).toNat * 1))) := ⟨_, rfl⟩
       obtain ⟨c16, hc16⟩ : ∃ c1, c1 = co17 - ((ji11) : Int).toNat := ⟨_, rfl⟩
       have hy16 : y208.length = t205.length - ((ji11) : Int).toNat := (by rw [Ny208.out, List.length_drop] <;> omega)
       rw [show (t205).drop ((ji11) : Int).toNat = y208 from Ny208.out.symm] at hr16
       replace hr16 : Kd.F (Kd.int .u64) _ _ A16 y208.length y208 := (by rw [hA16]; exact hr16)
       rw [← hy16, ← hA16, ← hc16] at hcut16
       have HO212 := Aside0.mk (show Kd.V (Kd.int .u64) 22 _ w.heap.size _ (.slice A16 y208.length c16) y208 from Kd.V_mk (by rw [hy16, hc16]; exact Nat.sub_le_sub_right hroom16 _) hr16)
       have HC212 := Aside0.mk (show y208.length ≤ c16 from by rw [hy16, hc16]; exact Nat.sub_le_sub_right hroom16 _)
       clear hr16 hC16 hroom16 hi016 hsz16 hc16
       have KY16 := Aside0.mk hy16
       have KA16 := Aside0.mk hA16
       clear hy16 hA16
       replace q16 := eq_true q16
       go_wp2_with (first | ((with_reducible refine gate_callee (f := 116) rfl ?_); refine goesL_ (some 32) rfl rfl Try.func116 (by kernel_rfl) rfl #[.slice A16 y208.length c16] rfl mt_ ?_; (with_reducible refine (slices_Clone_uint64_uint64.calls _ _ y208 t213 _ ?side1 ?side2 A14.out).mono ?_); (case side1 => repeat (first | exact (Kd.V_reads' HO212.out).2.2 | (with_reducible refine Kd.C_alloc ?_ _) | (with_reducible refine Kd.C_drewN ?_ _) | (with_reducible refine Kd.C_drew ?_))); (case side2 => exact (Kd.V_reads' HO212.out).2.1); rintro e w18 ⟨v214, rfl, ho0, hb⟩; refine ⟨_, rfl, ?_⟩; have n0_ := Aside0.mk (Kd.V_elder' (rV_ HO_0) (Kd.R_base ho0) hb); have n1_ := Aside0.mk (Kd.V_elder' (rV_ HO212) (Kd.R_base ho0) hb); have n2_ := Aside0.mk (Kd.R_lower (Kd.R_newM (M := fun k_ => (w.heap.size ≤ k_)) ho0 (below_size (bb_ HB)) (fun k_ h_ => h_)) (below_size (bb_ HB))); have n3_ := Aside0.mk (below_step (bb_ HB) hb); clear HO_0; clear HO212; clear HB; have HO_0 := n0_; have HO212 := n1_; have HO215 := n2_; have HB := n3_; clear n0_ n1_ n2_ n3_; (try clear hb); (try clear hb2); (try clear hk); (try clear hi); (try clear ho0); obtain ⟨Ao19, co19, eo19⟩ := Kd.R_slice HO215.out; subst eo19))
       go_loopg [37] kj5 (fun kq v37 w' => ∃ (x5_2 : List Int) (x37_2 : Int), v37 = .int .i64 x37_2 ∧ Aside0 (limb_Shift.l0 kq x5_2 ji15 (t213.length : Int) x37_2 = some r) ∧ Aside0 (kq ≤ kj5) ∧ Aside0 (Kd.R (Kd.int .u64) 22 w' w.heap.size (fun k_ => (w.heap.size ≤ k_)) (.slice Ao19 t213.length co19) x5_2) ∧ Aside0 (Below w.heap.size w w'))
       case atStart => exact ⟨(t213), (0), sd_, H', ⟨Nat.le_refl _⟩, ⟨by (with_reducible repeat (first | apply Kd.R_alloc | apply Kd.R_drewN | apply Kd.R_drew)); exact Kd.R_mono HO215.out (fun _ hk => hk.1)⟩, ⟨by repeat (first | (with_reducible first | exact HB.out | apply below_alloc | apply pw_below_drewN | apply below_drew1) | exact HB.out)⟩⟩
       case round =>
        clear H'
        try clear c1
        try clear q1
        try clear p2
        try clear c4
        try clear c4b0
        try clear p6
        try clear c8
        try clear c8b0
        try clear c10
        try clear c11
        try clear c12
        try clear c12b0
        try clear c12b1
        try clear c13
        try clear c13b0
        try clear c13b1
        try clear c16
        try clear q16
        try clear p2
        try clear p6
        try clear q016
        try clear q16
        obtain ⟨x5_2, x37_2, rfl, HA, HK2, HO_5, HB⟩ := hrel
        have hl5_2 := (Kd.R_reads' HO_5.out).1
        rw [hl5_2] at HO_5
        (try simp only [hl5_2])
        cases gk with
        | zero => exact absurd HA.out (by simp [limb_Shift.l0])
        | succ k2 =>
         have H := HA.out
         clear HA
         simp only [limb_Shift.l0] at H
         by_cases c20 : x37_2 < (t213.length : Int)
         ·
          rw [if_pos c20] at H
          have c20b0 : decide (x37_2 < (t213.length : Int)) = true := decide_eq_true c20
          (try simp only [hl5_2] at c20b0)
          clear c20
          by_cases c21 : 0 ≤ x37_2
          ·
           rw [if_pos c21] at H
           have c21b0 : decide (0 ≤ x37_2) = true := decide_eq_true c21
           clear c21
           by_cases c22 : x37_2 < (x5_2.length : Int)
           ·
            rw [if_pos c22] at H
            have c22b0 : decide (x37_2 < (x5_2.length : Int)) = true := decide_eq_true c22
            (try simp only [hl5_2] at c22b0)
            clear c22
            by_cases c23 : 0 ≤ ji15
            ·
             rw [if_pos c23] at H
             have c23b0 := eq_true c23
             have c23b1 : decide (0 ≤ ji15) = true := decide_eq_true c23
             clear c23
             obtain ⟨ji24, hji24⟩ : ∃ j_ : Int, (shr .u64 (rd x5_2 x37_2) ji15) = j_ := ⟨_, rfl⟩
             replace H : ((some (x5_2.set (x37_2 : Int).toNat (ji24) : List Int)).bind fun y217 => (if (wrap64 (x37_2 + 1)) < (x5_2.length : Int) then (if ji15 > 0 then (if 0 ≤ (wrap64 (x37_2 + 1)) then (if 0 ≤ (wrap64 (64 - ji15)) then (limb_Shift.l0 k2 (y217.set (x37_2 : Int).toNat (Go.bits .or .u64 (rd y217 x37_2) (shl .u64 (rd y217 (wrap64 (x37_2 + 1))) (wrap64 (64 - ji15))))) ji15 (t213.length : Int) (wrap64 (x37_2 + 1))) else (none)) else (none)) else (limb_Shift.l0 k2 y217 ji15 (t213.length : Int) (wrap64 (x37_2 + 1)))) else (limb_Shift.l0 k2 y217 ji15 (t213.length : Int) (wrap64 (x37_2 + 1))))) = some r := by first | (rw [hji24] at H; exact H) | (simp only [hji24] at H ⊢; exact H)
             have hji24_ : ((rd x5_2 x37_2) / 2 ^ min ji15.toNat 64) = ji24 := hji24
             have hji24z : ji15 ≤ 64 → ((rd x5_2 x37_2) / 2 ^ ji15.toNat) = ji24 := shr_small hji24
             obtain ⟨y217, hy217⟩ : ∃ y_ : List Int, y_ = (x5_2.set (x37_2 : Int).toNat (ji24)) := ⟨_, rfl⟩
             replace H : (if (wrap64 (x37_2 + 1)) < (x5_2.length : Int) then (if ji15 > 0 then (if 0 ≤ (wrap64 (x37_2 + 1)) then (if 0 ≤ (wrap64 (64 - ji15)) then (limb_Shift.l0 k2 (y217.set (x37_2 : Int).toNat (Go.bits .or .u64 (rd y217 x37_2) (shl .u64 (rd y217 (wrap64 (x37_2 + 1))) (wrap64 (64 - ji15))))) ji15 (t213.length : Int) (wrap64 (x37_2 + 1))) else (none)) else (none)) else (limb_Shift.l0 k2 y217 ji15 (t213.length : Int) (wrap64 (x37_2 + 1)))) else (limb_Shift.l0 k2 y217 ji15 (t213.length : Int) (wrap64 (x37_2 + 1)))) = some r := by first | (rw [hy217]; with_reducible exact H) | (have H2_ := (Option.bind_some _ _).symm.trans H; rw [hy217]; with_reducible exact H2_) | (have H2_ := (Option.bind_some _ _).symm.trans H; with_reducible exact H2_) | with_reducible exact H | (rw [hy217]; exact H) | exact H
             have Ny217 := Aside0.mk hy217
             clear hy217
             by_cases c26 : (wrap64 (x37_2 + 1)) < (x5_2.length : Int)
             ·
              rw [if_pos c26] at H
              have c26b0 : decide ((wrap64 (x37_2 + 1)) < (x5_2.length : Int)) = true := decide_eq_true c26
              (try simp only [hl5_2] at c26b0)
              clear c26
              by_cases c27 : ji15 > 0
              ·
               rw [if_pos c27] at H
               have c27b0 : decide (0 < ji15) = true := decide_eq_true c27
               clear c27
               obtain ⟨ji28, hji28⟩ : ∃ j_ : Int, (wrap64 (x37_2 + 1)) = j_ := ⟨_, rfl⟩
               replace H : (if 0 ≤ (ji28) then (if 0 ≤ (wrap64 (64 - ji15)) then (limb_Shift.l0 k2 (y217.set (x37_2 : Int).toNat (Go.bits .or .u64 (rd y217 x37_2) (shl .u64 (rd y217 (ji28)) (wrap64 (64 - ji15))))) ji15 (t213.length : Int) ji28) else (none)) else (none)) = some r := by first | (rw [hji28] at H; exact H) | (simp only [hji28] at H ⊢; exact H)
               (try rw [hji28] at c26b0)
               have hji28w : (IntKind.i64.wrap (x37_2 + 1)) = ji28 := (i64_w _).trans hji28
               by_cases c29 : 0 ≤ (ji28)
               ·
                rw [if_pos c29] at H
                have c29b0 : decide (0 ≤ (ji28)) = true := decide_eq_true c29
                clear c29
                obtain ⟨ji30, hji30⟩ : ∃ j_ : Int, (wrap64 (64 - ji15)) = j_ := ⟨_, rfl⟩
                replace H : (if 0 ≤ (ji30) then (limb_Shift.l0 k2 (y217.set (x37_2 : Int).toNat (Go.bits .or .u64 (rd y217 x37_2) (shl .u64 (rd y217 (ji28)) (ji30)))) ji15 (t213.length : Int) ji28) else (none)) = some r := by first | (rw [hji30] at H; exact H) | (simp only [hji30] at H ⊢; exact H)
                have hji30w : (IntKind.i64.wrap (64 - ji15)) = ji30 := (i64_w _).trans hji30
                by_cases c31 : 0 ≤ (ji30)
                ·
                 rw [if_pos c31] at H
                 have c31b0 := eq_true c31
                 have c31b1 : decide (0 ≤ (ji30)) = true := decide_eq_true c31
                 clear c31
                 obtain ⟨ji32, hji32⟩ : ∃ j_ : Int, (shl .u64 (rd y217 (ji28)) (ji30)) = j_ := ⟨_, rfl⟩
                 replace H : (limb_Shift.l0 k2 (y217.set (x37_2 : Int).toNat (Go.bits .or .u64 (rd y217 x37_2) (ji32))) ji15 (t213.length : Int) ji28) = some r := by first | (rw [hji32] at H; exact H) | (simp only [hji32] at H ⊢; exact H)
                 have hji32_ : (IntKind.u64.wrap ((rd y217 (ji28)) * 2 ^ min (ji30).toNat 64)) = ji32 := hji32
                 have hji32z : (ji30) ≤ 64 → (IntKind.u64.wrap ((rd y217 (ji28)) * 2 ^ (ji30).toNat)) = ji32 := shl_small hji32
                 obtain ⟨y220, hy220⟩ : ∃ y_ : List Int, y_ = (y217.set (x37_2 : Int).toNat (Go.bits .or .u64 (rd y217 x37_2) (ji32))) := ⟨_, rfl⟩
                 replace H : (limb_Shift.l0 k2 y220 ji15 (t213.length : Int) ji28) = some r := by first | (rw [hy220]; with_reducible exact H) | (have H2_ := (Option.bind_some _ _).symm.trans H; rw [hy220]; with_reducible exact H2_) | (have H2_ := (Option.bind_some _ _).symm.trans H; with_reducible exact H2_) | with_reducible exact H | (rw [hy220]; exact H) | exact H
                 have Ny220 := Aside0.mk hy220
                 clear hy220
                 have H' := Aside0.mk H
                 clear H
                 have p216 : 0 ≤ (x37_2 : Int) := of_decide_eq_true am_
                 have q216 : x37_2 < (x5_2.length : Int) := of_decide_eq_true am_
                 obtain ⟨ad216, e216, hx216_0⟩ := Kd.at_int (Kd.R_reads' HO_5.out).2.2 x37_2 p216 q216
                 cases e216
                 replace p216 := eq_true p216
                 replace q216 := eq_true q216
                 have p25 : 0 ≤ (x37_2 : Int) := of_decide_eq_true am_
                 have q25 : (x37_2 : Int) < ((x5_2.length : Int) : Int) := of_decide_eq_true am_
                 obtain ⟨go25, co25, eo25, gb25, gl25, cl25, HG25⟩ := Kd.R_form HO_5.out (by omega)
                 (first | cases eo25 | (injection eo25 with ea_ en_ ec_; (first | subst ea_ | (injection ea_ with ea_; subst ea_)); subst ec_; clear en_))
                 have GB25 := Aside0.mk gb25
                 have GG25 := Aside0.mk HG25
                 clear gb25 gl25 HG25
                 (first | simp only [add_plain] at hx216_0 | skip)
                 obtain ⟨hx25_0, hf25_0⟩ := Kd.R_celln 0 HO_5.out (x37_2 : Int) p25 q25
                 replace p25 := eq_true p25
                 replace q25 := eq_true q25
                 have HP34 := Kd.R_putg HO_5.out (x37_2 : Int) ji24
                 try go_wp2_with (first | ((with_reducible refine gate_store (t := 22) (p := 46) rfl ?_); refine store_event (t := 22) (p := 46) (v := ?vo_w35) (w1 := (wr.setCell ⟨go25, (x37_2 : Int).toNat, none⟩ (.int .u64 ji24))) ?hg ?ho ?hn ?hr ?_; (case ho => rfl); (case hg => rfl); (case hn => rfl); (case hr => exact gs_); intro w35 hw; have hg : wr.grownBy w35 (some go25) := (by rw [hw]; exact HP34.2); have hp_ : Kd.R (Kd.int .u64) 22 w35 w.heap.size (fun k_ => (w.heap.size ≤ k_)) (.slice (some ⟨go25, 0, none⟩) x5_2.length co19) y217 := (by rw [hw, Ny217.out]; exact HP34.1); clear HP34; have n0_ := Aside0.mk (hp_); have n1_ := Aside0.mk ((by rw [hw]; exact below_set (HB.out) GB25.out : Below w.heap.size w w35)); clear HO_5; clear HB; have HO_5 := n0_; have HB := n1_; clear n0_ n1_; clear hg hw hp_))
                 have n0_ := Aside0.mk (Kd.R_drew HO_5.out)
                 have n1_ := Aside0.mk (below_drew1 HB.out)
                 clear HO_5
                 clear HB
                 have HO_5 := n0_
                 have HB := n1_
                 clear n0_ n1_
                 have p218 : 0 ≤ (x37_2 : Int) := of_decide_eq_true am_
                 have q218 : x37_2 < (y217.length : Int) := (by have h_ : (x37_2 : Int) < ((x5_2.length : Int) : Int) := of_decide_eq_true am_; first | (have e_ := (Kd.R_reads' HO_5.out).1; omega) | simpa only [Ny217.out, List.length_set] using h_)
                 have ql218 : ((x37_2 : Int) < ((x5_2.length : Int) : Int)) = True := eq_true (of_decide_eq_true am_)
                 obtain ⟨ad218, e218, hx218_0⟩ := Kd.at_int (Kd.R_reads' HO_5.out).2.2 x37_2 p218 q218
                 obtain rfl : (⟨go25, 0, none⟩ : Addr) = ad218 := (by injection e218)
                 (first | simp only [add_plain] at hx218_0 | simp only [add_at] at hx218_0 | simp only [Addr.add, Nat.zero_add] at hx218_0 | skip)
                 replace p218 := eq_true p218
                 replace q218 := eq_true q218
                 have p219 : 0 ≤ ((ji28) : Int) := of_decide_eq_true am_
                 have q219 : (ji28) < (y217.length : Int) := (by have h_ : ((ji28) : Int) < ((x5_2.length : Int) : Int) := of_decide_eq_true am_; first | (have e_ := (Kd.R_reads' HO_5.out).1; omega) | simpa only [Ny217.out, List.length_set] using h_)
                 have ql219 : (((ji28) : Int) < ((x5_2.length : Int) : Int)) = True := eq_true (of_decide_eq_true am_)
                 obtain ⟨ad219, e219, hx219_0⟩ := Kd.at_int (Kd.R_reads' HO_5.out).2.2 (ji28) p219 q219
                 obtain rfl : (⟨go25, 0, none⟩ : Addr) = ad219 := (by injection e219)
                 (first | simp only [add_plain] at hx219_0 | simp only [add_at] at hx219_0 | simp only [Addr.add, Nat.zero_add] at hx219_0 | skip)
                 replace p219 := eq_true p219
                 replace q219 := eq_true q219
                 have p33 : 0 ≤ (x37_2 : Int) := of_decide_eq_true am_
                 have q33 : (x37_2 : Int) < ((x5_2.length : Int) : Int) := of_decide_eq_true am_
                 obtain ⟨hx33_0, hf33_0⟩ := Kd.R_celln 0 HO_5.out (x37_2 : Int) p33 q33
                 replace p33 := eq_true p33
                 replace q33 := eq_true q33
                 have HP37 := Kd.R_putn HO_5.out (x37_2 : Int) (Go.bits .or .u64 (rd y217 x37_2) (ji32))
                 rw [← Ny220.out] at HP37
                 have HQ37 := Aside0.mk HP37
                 clear HP37
                 refine start_ (n := 15) (S := fun w' => w'.cell? ⟨go25, (x37_2).toNat, none⟩ = some (.int .u64 (rd y217 x37_2)) ∧ w'.cell? ⟨go25, ((ji28)).toNat, none⟩ = some (.int .u64 (rd y217 (ji28)))) (ds := [14]) #[false, false, false, false, false, false, false, false, false, false, false, false, false, false, false] (by kernel_rfl) rfl rfl ⟨hx218_0, hx219_0⟩ (fun hHeld => ?_); refine with_tabW limb_Shift.tab12 limb_Shift.bits12 (fun HT_ HW_ => ?_)
                 generalize w35.drew = w36 at HO_5 HB HQ37 hf33_0 hx218_0 hx219_0 hx33_0 hHeld ⊢
                 refine pure_ (i := 0) (N := some 56) (v := ?_) (a' := ?_) #[true, false, false, false, false, false, false, false, false, false, false, false, false, false, false] rfl rfl (any_of HT_.out (by kernel_rfl)) (fun _ _ _ h => h) (Or.inl ⟨by rfl, ?_⟩) ?_ ?_
                 rotate_left
                 ·
                  intro w'
                  go_simp
                  with_reducible rfl
                 rotate_left
                 ·
                  simp only [Act.put, ss_, i64_w, i32_w]
                  rfl
                 refine pure_ (i := 1) (N := some 57) (v := ?_) (a' := ?_) #[true, true, false, false, false, false, false, false, false, false, false, false, false, false, false] rfl rfl (any_of HT_.out (by kernel_rfl)) (fun _ _ _ h => h) (Or.inl ⟨by rfl, ?_⟩) ?_ ?_
                 rotate_left
                 ·
                  intro w'
                  go_simp
                  with_reducible rfl
                 rotate_left
                 ·
                  simp only [Act.put, ss_, i64_w, i32_w]
                  rfl
                 refine pure_ (i := 2) (N := some 58) (v := ?_) (a' := ?_) #[true, true, true, false, false, false, false, false, false, false, false, false, false, false, false] rfl rfl (any_of HT_.out (by kernel_rfl)) (fun _ _ _ h => h) (Or.inl ⟨by rfl, ?_⟩) ?_ ?_
                 rotate_left
                 ·
                  intro w'
                  go_simp
                  with_reducible rfl
                 rotate_left
                 ·
                  simp only [Act.put, ss_, i64_w, i32_w]
                  rfl
                 refine pure_ (i := 4) (N := some 60) (v := ?_) (a' := ?_) #[true, true, true, false, true, false, false, false, false, false, false, false, false, false, false] rfl rfl (any_of HT_.out (by kernel_rfl)) (fun _ _ _ h => h) (Or.inl ⟨by rfl, ?_⟩) ?_ ?_
                 rotate_left
                 ·
                  intro w'
                  go_simp
                  with_reducible rfl
                 rotate_left
                 ·
                  simp only [Act.put, ss_, i64_w, i32_w]
                  rfl
                 refine pure_ (i := 5) (N := some 61) (v := ?_) (a' := ?_) #[true, true, true, false, true, true, false, false, false, false, false, false, false, false, false] rfl rfl (any_of HT_.out (by kernel_rfl)) (fun _ _ _ h => h) (Or.inl ⟨by rfl, ?_⟩) ?_ ?_
                 rotate_left
                 ·
                  intro w'
                  go_simp
                  with_reducible rfl
                 rotate_left
                 ·
                  simp only [Act.put, ss_, i64_w, i32_w]
                  rfl
                 refine pure_ (i := 6) (N := some 62) (v := ?_) (a' := ?_) #[true, true, true, false, true, true, true, false, false, false, false, false, false, false, false] rfl rfl (any_of HT_.out (by kernel_rfl)) (fun _ _ _ h => h) (Or.inl ⟨by rfl, ?_⟩) ?_ ?_
                 rotate_left
                 ·
                  intro w'
                  go_simp
                  with_reducible rfl
                 rotate_left
                 ·
                  simp only [Act.put, ss_, i64_w, i32_w]
                  rfl
                 refine pure_ (i := 7) (N := some 63) (v := ?_) (a' := ?_) #[true, true, true, false, true, true, true, true, false, false, false, false, false, false, false] rfl rfl (any_of HT_.out (by kernel_rfl)) (fun _ _ _ h => h) (Or.inl ⟨by rfl, ?_⟩) ?_ ?_
                 rotate_left
                 ·
                  intro w'
                  go_simp
                  with_reducible rfl
                 rotate_left
                 ·
                  simp only [Act.put, ss_, i64_w, i32_w]
                  rfl
                 refine pure_ (i := 9) (N := some 65) (v := ?_) (a' := ?_) #[true, true, true, false, true, true, true, true, false, true, false, false, false, false, false] rfl rfl (any_of HT_.out (by kernel_rfl)) (fun _ _ _ h => h) (Or.inl ⟨by rfl, ?_⟩) ?_ ?_
                 rotate_left
                 ·
                  intro w'
                  go_simp
                  with_reducible rfl
                 rotate_left
                 ·
                  simp only [Act.put, ss_, i64_w, i32_w]
                  rfl
                 refine pure_ (i := 10) (N := some 66) (v := ?_) (a' := ?_) #[true, true, true, false, true, true, true, true, false, true, true, false, false, false, false] rfl rfl (any_of HT_.out (by kernel_rfl)) (fun _ _ _ h => h) (Or.inl ⟨by rfl, ?_⟩) ?_ ?_
                 rotate_left
                 ·
                  intro w'
                  go_simp
                  with_reducible rfl
                 rotate_left
                 ·
                  simp only [Act.put, ss_, i64_w, i32_w]
                  rfl
                 refine take_ (i := 3) (N := some 59) (v := ?_) (a' := ?_) #[true, true, true, true, true, true, true, true, false, true, true, false, false, false, false] rfl rfl (take_ofW HT_.out HW_.out (by kernel_rfl)) (fun _ _ _ h => h) (Or.inl ⟨by rfl, ?_⟩) hHeld ?_ ?_
                 rotate_left
                 ·
                  rintro w' ⟨s0, s1⟩
                  go_simp
                  with_reducible rfl
                 rotate_left
                 ·
                  simp only [Act.put, ss_, i64_w, i32_w]
                  rfl
                 refine take_ (i := 8) (N := some 64) (v := ?_) (a' := ?_) #[true, true, true, true, true, true, true, true, true, true, true, false, false, false, false] rfl rfl (take_ofW HT_.out HW_.out (by kernel_rfl)) (fun _ _ _ h => h) (Or.inl ⟨by rfl, ?_⟩) hHeld ?_ ?_
                 rotate_left
                 ·
                  rintro w' ⟨s0, s1⟩
                  go_simp
                  with_reducible rfl
                 rotate_left
                 ·
                  simp only [Act.put, ss_, i64_w, i32_w]
                  rfl
                 refine pure_ (i := 11) (N := some 67) (v := ?_) (a' := ?_) #[true, true, true, true, true, true, true, true, true, true, true, true, false, false, false] rfl rfl (any_of HT_.out (by kernel_rfl)) (fun _ _ _ h => h) (Or.inl ⟨by rfl, ?_⟩) ?_ ?_
                 rotate_left
                 ·
                  intro w'
                  go_simp
                  with_reducible rfl
                 rotate_left
                 ·
                  simp only [Act.put, ss_, i64_w, i32_w]
                  rfl
                 refine pure_ (i := 12) (N := some 68) (v := ?_) (a' := ?_) #[true, true, true, true, true, true, true, true, true, true, true, true, true, false, false] rfl rfl (any_of HT_.out (by kernel_rfl)) (fun _ _ _ h => h) (Or.inl ⟨by rfl, ?_⟩) ?_ ?_
                 rotate_left
                 ·
                  intro w'
                  go_simp
                  with_reducible rfl
                 rotate_left
                 ·
                  simp only [Act.put, ss_, i64_w, i32_w]
                  rfl
                 refine pure_ (i := 13) (N := some 69) (v := ?_) (a' := ?_) #[true, true, true, true, true, true, true, true, true, true, true, true, true, true, false] rfl rfl (any_of HT_.out (by kernel_rfl)) (fun _ _ _ h => h) (Or.inl ⟨by rfl, ?_⟩) ?_ ?_
                 rotate_left
                 ·
                  intro w'
                  go_simp
                  with_reducible rfl
                 rotate_left
                 ·
                  simp only [Act.put, ss_, i64_w, i32_w]
                  rfl
                 refine last_ (i := 14) (N := none) #[true, true, true, true, true, true, true, true, true, true, true, true, true, true, true] rfl rfl (one_of HT_.out (by kernel_rfl)) (by decide) (fun K hK => ?_)
                 refine skip_ (w1 := ?_) (by rfl) rfl ?_ ?_
                 rotate_left
                 ·
                  go_simp
                  rfl
                 refine hK.out _ _ ?_
                 clear hK K
                 refine done_ (done_of HT_.out (by kernel_rfl)) ?_
                 try go_wp2
                 (try simp only [← hl5_2])
                 go_roundg k2
                 case measure => have := HJ5.out; have := HK2.out; omega
                 case rel => exact ⟨(y220), (ji28), (by first | rfl | (simp; done) | (simp only [← hji28] <;> (first | rfl | simp)) | (simp [*]; done)), H', ⟨by have := HJ5.out; have := HK2.out; omega⟩, ⟨by (try simp only [hl5_2]); (with_reducible repeat (first | apply Kd.R_alloc | apply Kd.R_drewN | apply Kd.R_drew)); exact HQ37.out⟩, ⟨by repeat (first | (with_reducible first | exact HB.out | apply below_alloc | apply pw_below_drewN | apply below_drew1 | refine below_set ?_ GB25.out) | exact HB.out)⟩⟩
                ·
                 rw [if_neg c31] at H
                 exact absurd H (by simp)
               ·
                rw [if_neg c29] at H
                exact absurd H (by simp)
              ·
               rw [if_neg c27] at H
               have c27b0 : decide (0 < ji15) = false := decide_eq_false c27
               clear c27
               have H' := Aside0.mk H
               clear H
               have p216 : 0 ≤ (x37_2 : Int) := of_decide_eq_true am_
               have q216 : x37_2 < (x5_2.length : Int) := of_decide_eq_true am_
               obtain ⟨ad216, e216, hx216_0⟩ := Kd.at_int (Kd.R_reads' HO_5.out).2.2 x37_2 p216 q216
               cases e216
               replace p216 := eq_true p216
               replace q216 := eq_true q216
               have p25 : 0 ≤ (x37_2 : Int) := of_decide_eq_true am_
               have q25 : (x37_2 : Int) < ((x5_2.length : Int) : Int) := of_decide_eq_true am_
               obtain ⟨go25, co25, eo25, gb25, gl25, cl25, HG25⟩ := Kd.R_form HO_5.out (by omega)
               (first | cases eo25 | (injection eo25 with ea_ en_ ec_; (first | subst ea_ | (injection ea_ with ea_; subst ea_)); subst ec_; clear en_))
               have GB25 := Aside0.mk gb25
               have GG25 := Aside0.mk HG25
               clear gb25 gl25 HG25
               (first | simp only [add_plain] at hx216_0 | skip)
               obtain ⟨hx25_0, hf25_0⟩ := Kd.R_celln 0 HO_5.out (x37_2 : Int) p25 q25
               replace p25 := eq_true p25
               replace q25 := eq_true q25
               have HP38 := Kd.R_putg HO_5.out (x37_2 : Int) ji24
               go_wp2_with (first | ((with_reducible refine gate_store (t := 22) (p := 46) rfl ?_); refine store_event (t := 22) (p := 46) (v := ?vo_w39) (w1 := (wr.setCell ⟨go25, (x37_2 : Int).toNat, none⟩ (.int .u64 ji24))) ?hg ?ho ?hn ?hr ?_; (case ho => rfl); (case hg => rfl); (case hn => rfl); (case hr => exact gs_); intro w39 hw; have hg : wr.grownBy w39 (some go25) := (by rw [hw]; exact HP38.2); have hp_ : Kd.R (Kd.int .u64) 22 w39 w.heap.size (fun k_ => (w.heap.size ≤ k_)) (.slice (some ⟨go25, 0, none⟩) x5_2.length co19) y217 := (by rw [hw, Ny217.out]; exact HP38.1); clear HP38; have n0_ := Aside0.mk (hp_); have n1_ := Aside0.mk ((by rw [hw]; exact below_set (HB.out) GB25.out : Below w.heap.size w w39)); clear HO_5; clear HB; have HO_5 := n0_; have HB := n1_; clear n0_ n1_; clear hg hw hp_))
               (try simp only [← hl5_2])
               go_roundg k2
               case measure => have := HJ5.out; have := HK2.out; omega
               case rel => exact ⟨(y217), (wrap64 (x37_2 + 1)), sd_, H', ⟨by have := HJ5.out; have := HK2.out; omega⟩, ⟨by (try simp only [hl5_2]); (with_reducible repeat (first | apply Kd.R_alloc | apply Kd.R_drewN | apply Kd.R_drew)); exact HO_5.out⟩, ⟨by repeat (first | (with_reducible first | exact HB.out | apply below_alloc | apply pw_below_drewN | apply below_drew1) | exact HB.out)⟩⟩
             ·
              rw [if_neg c26] at H
              have c26b0 : decide ((wrap64 (x37_2 + 1)) < (x5_2.length : Int)) = false := decide_eq_false c26
              (try simp only [hl5_2] at c26b0)
              clear c26
              have H' := Aside0.mk H
              clear H
              have p216 : 0 ≤ (x37_2 : Int) := of_decide_eq_true am_
              have q216 : x37_2 < (x5_2.length : Int) := of_decide_eq_true am_
              obtain ⟨ad216, e216, hx216_0⟩ := Kd.at_int (Kd.R_reads' HO_5.out).2.2 x37_2 p216 q216
              cases e216
              replace p216 := eq_true p216
              replace q216 := eq_true q216
              have p25 : 0 ≤ (x37_2 : Int) := of_decide_eq_true am_
              have q25 : (x37_2 : Int) < ((x5_2.length : Int) : Int) := of_decide_eq_true am_
              obtain ⟨go25, co25, eo25, gb25, gl25, cl25, HG25⟩ := Kd.R_form HO_5.out (by omega)
              (first | cases eo25 | (injection eo25 with ea_ en_ ec_; (first | subst ea_ | (injection ea_ with ea_; subst ea_)); subst ec_; clear en_))
              have GB25 := Aside0.mk gb25
              have GG25 := Aside0.mk HG25
              clear gb25 gl25 HG25
              (first | simp only [add_plain] at hx216_0 | skip)
              obtain ⟨hx25_0, hf25_0⟩ := Kd.R_celln 0 HO_5.out (x37_2 : Int) p25 q25
              replace p25 := eq_true p25
              replace q25 := eq_true q25
              have HP40 := Kd.R_putg HO_5.out (x37_2 : Int) ji24
              go_wp2_with (first | ((with_reducible refine gate_store (t := 22) (p := 46) rfl ?_); refine store_event (t := 22) (p := 46) (v := ?vo_w41) (w1 := (wr.setCell ⟨go25, (x37_2 : Int).toNat, none⟩ (.int .u64 ji24))) ?hg ?ho ?hn ?hr ?_; (case ho => rfl); (case hg => rfl); (case hn => rfl); (case hr => exact gs_); intro w41 hw; have hg : wr.grownBy w41 (some go25) := (by rw [hw]; exact HP40.2); have hp_ : Kd.R (Kd.int .u64) 22 w41 w.heap.size (fun k_ => (w.heap.size ≤ k_)) (.slice (some ⟨go25, 0, none⟩) x5_2.length co19) y217 := (by rw [hw, Ny217.out]; exact HP40.1); clear HP40; have n0_ := Aside0.mk (hp_); have n1_ := Aside0.mk ((by rw [hw]; exact below_set (HB.out) GB25.out : Below w.heap.size w w41)); clear HO_5; clear HB; have HO_5 := n0_; have HB := n1_; clear n0_ n1_; clear hg hw hp_))
              (try simp only [← hl5_2])
              go_roundg k2
              case measure => have := HJ5.out; have := HK2.out; omega
              case rel => exact ⟨(y217), (wrap64 (x37_2 + 1)), sd_, H', ⟨by have := HJ5.out; have := HK2.out; omega⟩, ⟨by (try simp only [hl5_2]); (with_reducible repeat (first | apply Kd.R_alloc | apply Kd.R_drewN | apply Kd.R_drew)); exact HO_5.out⟩, ⟨by repeat (first | (with_reducible first | exact HB.out | apply below_alloc | apply pw_below_drewN | apply below_drew1) | exact HB.out)⟩⟩
            ·
             rw [if_neg c23] at H
             exact absurd H (by simp)
           ·
            rw [if_neg c22] at H
            exact absurd H (by simp)
          ·
           rw [if_neg c21] at H
           exact absurd H (by simp)
         ·
          rw [if_neg c20] at H
          have c20b0 : decide (x37_2 < (t213.length : Int)) = false := decide_eq_false c20
          (try simp only [hl5_2] at c20b0)
          clear c20
          replace H := Option.bind_eq_some_iff.mp H
          obtain ⟨t221, A420, H⟩ := H
          replace H : (some t221) = some r := H
          have A42 := Aside0.mk A420
          clear A420
          obtain rfl := Option.some.inj H
          go_wp2_with fail
          refine (limb_trim.own k2 w.heap.size (fun k_ => w.heap.size ≤ k_) Ao19 co19 x5_2 _ _ HO_5.out A42.out).mono ?_
          rintro e w43 ⟨v157, rfl, ho0, hb⟩
          have HO158 := Aside0.mk ho0
          have HB2_ := Aside0.mk (below_step HB.out hb)
          clear ho0 hb
          go_wp2
          go_ret
          exact ⟨_, rfl, Kd.R_mono HO158.out (fun _ _ => trivial), HB2_.out⟩
      ·
       rw [if_neg c13] at H
       exact absurd H (by simp)
     ·
      rw [if_neg c12] at H
      exact absurd H (by simp)
 ·
  rw [if_neg c4] at H
  have c4b0 : decide (a1 < 0) = false := decide_eq_false c4
  clear c4
  obtain ⟨ji44, hji44⟩ : ∃ j_ : Int, (mn a1 1000) = j_ := ⟨_, rfl⟩
  replace H : (if 0 ≤ (wrap64 (Int.tdiv (ji44) 64)) then (if (wrap64 (Int.tdiv (ji44) 64)) ≤ (wrap64 ((wrap64 ((wrap64 (Int.tdiv (ji44) 64)) + (t205.length : Int))) + 1)) then (if (wrap64 ((wrap64 ((wrap64 (Int.tdiv (ji44) 64)) + (t205.length : Int))) + 1) : Int).toNat ≤ 35184372088832 then (limb_Shift.l1 k ji44 (List.replicate (wrap64 (Int.tdiv (ji44) 64) : Int).toNat 0) 0 t205 (t205.length : Int) 0) else (none)) else (none)) else (none)) = some r := by first | (rw [hji44] at H; exact H) | (simp only [hji44] at H ⊢; exact H)
  (try rw [hji44] at A3)
  (try (have hji44h : ji44 ≤ 1000 := by (rw [← hji44]; unfold mn; (repeat' split) <;> omega)))
  (try (have hji44g : ji44 ≤ 64 := by omega))
  have hji44_ : (if 1000 < a1 then 1000 else a1) = ji44 := hji44
  obtain ⟨ji45, hji45⟩ : ∃ j_ : Int, (wrap64 (Int.tdiv (ji44) 64)) = j_ := ⟨_, rfl⟩
  replace H : (if 0 ≤ (ji45) then (if (ji45) ≤ (wrap64 ((wrap64 ((ji45) + (t205.length : Int))) + 1)) then (if (wrap64 ((wrap64 ((ji45) + (t205.length : Int))) + 1) : Int).toNat ≤ 35184372088832 then (limb_Shift.l1 k ji44 (List.replicate (ji45 : Int).toNat 0) 0 t205 (t205.length : Int) 0) else (none)) else (none)) else (none)) = some r := by first | (rw [hji45] at H; exact H) | (simp only [hji45] at H ⊢; exact H)
  (try rw [hji45] at A3)
  have hji45w : (IntKind.i64.wrap (Int.tdiv (ji44) 64)) = ji45 := (i64_w _).trans hji45
  by_cases c46 : 0 ≤ (ji45)
  ·
   rw [if_pos c46] at H
   have c46b0 := eq_true c46
   have c46b1 : decide (0 ≤ (ji45)) = true := decide_eq_true c46
   clear c46
   by_cases c47 : (ji45) ≤ (wrap64 ((wrap64 ((ji45) + (t205.length : Int))) + 1))
   ·
    rw [if_pos c47] at H
    have c47b0 := eq_true c47
    have c47b1 : decide ((ji45) ≤ (wrap64 ((wrap64 ((ji45) + (t205.length : Int))) + 1))) = true := decide_eq_true c47
    by_cases c48 : (wrap64 ((wrap64 ((ji45) + (t205.length : Int))) + 1) : Int).toNat ≤ 35184372088832
    ·
     rw [if_pos c48] at H
     have c48b0 := eq_true c48
     have c48b1 : decide ((wrap64 ((wrap64 ((ji45) + (t205.length : Int))) + 1) : Int).toNat ≤ 35184372088832) = true := decide_eq_true c48
     obtain ⟨y224, hy224⟩ : ∃ y_ : List Int, y_ = (List.replicate (ji45 : Int).toNat 0) := ⟨_, rfl⟩
     replace H : (limb_Shift.l1 k ji44 y224 0 t205 (t205.length : Int) 0) = some r := by first | (rw [hy224]; with_reducible exact H) | (have H2_ := (Option.bind_some _ _).symm.trans H; rw [hy224]; with_reducible exact H2_) | (have H2_ := (Option.bind_some _ _).symm.trans H; with_reducible exact H2_) | with_reducible exact H | (rw [hy224]; exact H) | exact H
     have Ny224 := Aside0.mk hy224
     clear hy224
     have H' := Aside0.mk H
     clear H
     go_enter Try.func100, Try.ntmps100
     go_wp2_with (first | ((with_reducible refine gate_callee (f := 110) rfl ?_); refine goesL_ (some 13) rfl rfl Try.func110 (by kernel_rfl) rfl #[.slice A0 l0.length c0] rfl mt_ ?_; (with_reducible refine (limb_trim.calls k (fun k_ => (P0_ k_ ∨ w.heap.size ≤ k_)) _ _ l0 t205 _ ?side1 A3.out).mono ?_); (case side1 => exact HO0.out); rintro e w49 ⟨v206, rfl, ho0, hb⟩; refine ⟨_, rfl, ?_⟩; have n0_ := Aside0.mk (Kd.V_below (rV_ HO0) hb); have n1_ := Aside0.mk (Kd.V_lower (Kd.V_mono (ok' := fun k_ => (P0_ k_ ∨ w.heap.size ≤ k_)) ho0 (fun k_ hk_ => Or.elim hk_ (fun hs_ => hs_) (fun hn_ => (.inr (Nat.le_trans (below_size (bb_ HB)) hn_))))) (below_size (bb_ HB))); have n2_ := Aside0.mk (below_step (bb_ HB) hb); clear HO0; clear HB; have HO0 := n0_; have HO207 := n1_; have HB := n2_; clear n0_ n1_ n2_; (try clear hb); (try clear hb2); (try clear hk); (try clear hi); (try clear ho0); obtain ⟨Ao50, co50, eo50⟩ := Kd.V_slice HO207.out; subst eo50) | ((with_reducible refine gate_dst (N := 83) rfl ?_); (try (refine gate_guard (by rfl) ?_; dsimp only)); refine R_make_cap (Kd.int .u64) _ 22 rfl (N := 83) rfl 35 _ _ rfl ji45 (wrap64 ((wrap64 ((ji45) + (t205.length : Int))) + 1)) rfl rfl Try.underlying35 (.int .u64 0) 8 info22 rfl (by decide) (by omega) 0 (ok := fun _ => True) (okp := fun _ => True) rfl (fun _ hk => hk) trivial (of_decide_eq_true am_) (of_decide_eq_true am_) (Nat.le_trans (Nat.mul_le_mul_right _ (of_decide_eq_true am_ : (wrap64 ((wrap64 ((ji45) + (t205.length : Int))) + 1)).toNat ≤ 35184372088832)) (by omega)) (Below.refl _ _) (Nat.le_refl _) ?_; intro v225 w51 ho52 hb hg_ hnew_; clear hg_ hnew_; (first | rw [← Ny224.out] at ho52 | (simp only [Int.reduceToNat] at ho52; rw [← Ny224.out] at ho52)); have n0_ := Aside0.mk (Kd.V_elder' (rV_ HO0) (Kd.R_base ho52) hb); have n1_ := Aside0.mk (Kd.V_elder' (rV_ HO207) (Kd.R_base ho52) hb); have n2_ := Aside0.mk (Kd.R_lower (Kd.R_newM (M := fun k_ => (w.heap.size ≤ k_)) ho52 (below_size (bb_ HB)) (fun k_ h_ => h_)) (below_size (bb_ HB))); have n3_ := Aside0.mk (below_step (bb_ HB) hb); clear HO0; clear HO207; clear HB; have HO0 := n0_; have HO207 := n1_; have HO226 := n2_; have HB := n3_; clear n0_ n1_ n2_ n3_; clear hb ho52))
     go_loopg [8, 9, 86] k (fun kq v8 v9 v86 w' => ∃ (x8_1 : List Int) (x9_1 : Int) (x86_1 : Int), v9 = .int .u64 x9_1 ∧ v86 = .int .i64 x86_1 ∧ Aside0 (limb_Shift.l1 kq ji44 x8_1 x9_1 t205 (t205.length : Int) x86_1 = some r) ∧ Aside0 (kq ≤ k) ∧ Aside0 (Kd.R (Kd.int .u64) 22 w' w.heap.size (fun k_ => (w.heap.size ≤ k_)) v8 x8_1) ∧ Aside0 (Kd.V (Kd.int .u64) 22 w' w.heap.size (fun k_ => (P0_ k_ ∨ w.heap.size ≤ k_) ∧ some k_ ≠ (v8 : Value).ownBlock) (.slice Ao50 t205.length co50) t205) ∧ Aside0 (Below w.heap.size w w'))
     case atStart => exact ⟨(y224), (0), (0), sd_, sd_, H', ⟨Nat.le_refl _⟩, ⟨by (with_reducible repeat (first | apply Kd.R_alloc | apply Kd.R_drewN | apply Kd.R_drew)); exact Kd.R_mono HO226.out (fun _ hk => hk.1)⟩, ⟨by (with_reducible repeat (first | apply Kd.V_alloc | apply Kd.V_drewN | apply Kd.V_drew)); exact HO207.out⟩, ⟨by repeat (first | (with_reducible first | exact HB.out | apply below_alloc | apply pw_below_drewN | apply below_drew1) | exact HB.out)⟩⟩
     case round =>
      clear H'
      try clear c1
      try clear q1
      try clear c2
      try clear p2
      try clear q2
      try clear hx2
      try clear hf2
      try clear c3
      try clear p3
      try clear q3
      try clear hx3
      try clear hf3
      try clear c4
      try clear c4b0
      try clear p6
      try clear c8
      try clear c8b0
      try clear c10
      try clear c11
      try clear c12
      try clear c12b0
      try clear c12b1
      try clear c13
      try clear c13b0
      try clear c13b1
      try clear c16
      try clear q16
      try clear c20
      try clear c20b0
      try clear c21
      try clear c21b0
      try clear p21
      try clear q21
      try clear hx21
      try clear c22
      try clear c22b0
      try clear c23
      try clear c23b0
      try clear c23b1
      try clear p25
      try clear q25
      try clear hx25
      try clear hf25
      try clear c26
      try clear c26b0
      try clear c27
      try clear c27b0
      try clear c29
      try clear c29b0
      try clear c31
      try clear c31b0
      try clear c31b1
      try clear p33
      try clear q33
      try clear hx33
      try clear hf33
      try clear c46
      try clear c46b0
      try clear c46b1
      try clear c47
      try clear c47b0
      try clear c47b1
      try clear c48
      try clear c48b0
      try clear c48b1
      try clear hx216_0
      try clear hx218_0
      try clear hx219_0
      try clear hx25_0
      try clear hx33_0
      try clear p2
      try clear p216
      try clear p218
      try clear p219
      try clear p25
      try clear p33
      try clear p6
      try clear q016
      try clear q1
      try clear q16
      try clear q216
      try clear q218
      try clear q219
      try clear q25
      try clear q33
      obtain ⟨x8_1, x9_1, x86_1, rfl, rfl, HA, HK1, HO_8, HO_84, HB⟩ := hrel
      cases gk with
      | zero => exact absurd HA.out (by simp [limb_Shift.l1])
      | succ k1 =>
       have H := HA.out
       clear HA
       simp only [limb_Shift.l1] at H
       by_cases c53 : x86_1 < (t205.length : Int)
       ·
        rw [if_pos c53] at H
        have c53b0 : decide (x86_1 < (t205.length : Int)) = true := decide_eq_true c53
        clear c53
        by_cases c54 : 0 ≤ x86_1
        ·
         rw [if_pos c54] at H
         have c54b0 : decide (0 ≤ x86_1) = true := decide_eq_true c54
         clear c54
         by_cases c55 : x86_1 < (t205.length : Int)
         ·
          rw [if_pos c55] at H
          have c55b0 : decide (x86_1 < (t205.length : Int)) = true := decide_eq_true c55
          clear c55
          obtain ⟨ji56, hji56⟩ : ∃ j_ : Int, (Int.tmod ji44 64) = j_ := ⟨_, rfl⟩
          replace H : (if 0 ≤ (ji56) then (if x8_1.length < 17592186044416 then (if 0 ≤ (wrap64 (63 - (ji56))) then (limb_Shift.l1 k1 ji44 (x8_1 ++ [Go.bits .or .u64 (shl .u64 (rd t205 x86_1) (ji56)) x9_1]) ((shr .u64 (rd t205 x86_1) (wrap64 (63 - (ji56)))) / 2) t205 (t205.length : Int) (wrap64 (x86_1 + 1))) else (none)) else (none)) else (none)) = some r := by first | (rw [hji56] at H; exact H) | (simp only [hji56] at H ⊢; exact H)
          by_cases c57 : 0 ≤ (ji56)
          ·
           rw [if_pos c57] at H
           have c57b0 := eq_true c57
           have c57b1 : decide (0 ≤ (ji56)) = true := decide_eq_true c57
           clear c57
           obtain ⟨ji58, hji58⟩ : ∃ j_ : Int, (shl .u64 (rd t205 x86_1) (ji56)) = j_ := ⟨_, rfl⟩
           replace H : (if x8_1.length < 17592186044416 then (if 0 ≤ (wrap64 (63 - (ji56))) then (limb_Shift.l1 k1 ji44 (x8_1 ++ [Go.bits .or .u64 (ji58) x9_1]) ((shr .u64 (rd t205 x86_1) (wrap64 (63 - (ji56)))) / 2) t205 (t205.length : Int) (wrap64 (x86_1 + 1))) else (none)) else (none)) = some r := by first | (rw [hji58] at H; exact H) | (simp only [hji58] at H ⊢; exact H)
           have hji58_ : (IntKind.u64.wrap ((rd t205 x86_1) * 2 ^ min (ji56).toNat 64)) = ji58 := hji58
           have hji58z : (ji56) ≤ 64 → (IntKind.u64.wrap ((rd t205 x86_1) * 2 ^ (ji56).toNat)) = ji58 := shl_small hji58
           by_cases c59 : x8_1.length < 17592186044416
           ·
            rw [if_pos c59] at H
            have LMc59 := Aside0.mk c59
            clear c59
            obtain ⟨y228, hy228⟩ : ∃ y_ : List Int, y_ = (x8_1 ++ [Go.bits .or .u64 (ji58) x9_1]) := ⟨_, rfl⟩
            replace H : (if 0 ≤ (wrap64 (63 - (ji56))) then (limb_Shift.l1 k1 ji44 y228 ((shr .u64 (rd t205 x86_1) (wrap64 (63 - (ji56)))) / 2) t205 (t205.length : Int) (wrap64 (x86_1 + 1))) else (none)) = some r := by first | (rw [hy228]; with_reducible exact H) | (have H2_ := (Option.bind_some _ _).symm.trans H; rw [hy228]; with_reducible exact H2_) | (have H2_ := (Option.bind_some _ _).symm.trans H; with_reducible exact H2_) | with_reducible exact H | (rw [hy228]; exact H) | exact H
            have Ny228 := Aside0.mk hy228
            clear hy228
            obtain ⟨ji60, hji60⟩ : ∃ j_ : Int, (wrap64 (63 - (ji56))) = j_ := ⟨_, rfl⟩
            replace H : (if 0 ≤ (ji60) then (limb_Shift.l1 k1 ji44 y228 ((shr .u64 (rd t205 x86_1) (ji60)) / 2) t205 (t205.length : Int) (wrap64 (x86_1 + 1))) else (none)) = some r := by first | (rw [hji60] at H; exact H) | (simp only [hji60] at H ⊢; exact H)
            have hji60w : (IntKind.i64.wrap (63 - (ji56))) = ji60 := (i64_w _).trans hji60
            by_cases c61 : 0 ≤ (ji60)
            ·
             rw [if_pos c61] at H
             have c61b0 := eq_true c61
             have c61b1 : decide (0 ≤ (ji60)) = true := decide_eq_true c61
             clear c61
             obtain ⟨ji62, hji62⟩ : ∃ j_ : Int, (shr .u64 (rd t205 x86_1) (ji60)) = j_ := ⟨_, rfl⟩
             replace H : (limb_Shift.l1 k1 ji44 y228 ((ji62) / 2) t205 (t205.length : Int) (wrap64 (x86_1 + 1))) = some r := by first | (rw [hji62] at H; exact H) | (simp only [hji62] at H ⊢; exact H)
             have hji62_ : ((rd t205 x86_1) / 2 ^ min (ji60).toNat 64) = ji62 := hji62
             have hji62z : (ji60) ≤ 64 → ((rd t205 x86_1) / 2 ^ (ji60).toNat) = ji62 := shr_small hji62
             have H' := Aside0.mk H
             clear H
             have p227 : 0 ≤ (x86_1 : Int) := of_decide_eq_true am_
             have q227 : x86_1 < (t205.length : Int) := of_decide_eq_true am_
             obtain ⟨ad227, e227, hx227_0⟩ := Kd.at_int (Kd.V_reads' HO_84.out).2.2 x86_1 p227 q227
             cases e227
             replace p227 := eq_true p227
             replace q227 := eq_true q227
             try go_wp2
             have n0_ := Aside0.mk (Kd.R_drew HO_8.out)
             have n1_ := Aside0.mk (Kd.V_drew HO_84.out)
             have n2_ := Aside0.mk (below_drew1 HB.out)
             clear HO_8
             clear HO_84
             clear HB
             have HO_8 := n0_
             have HO_84 := n1_
             have HB := n2_
             clear n0_ n1_ n2_
             refine start_ (n := 17) (S := fun w' => True) (ds := []) #[false, false, false, false, false, false, false, false, false, false, false, false, false, false, false, false, false] (by kernel_rfl) rfl rfl trivial (fun hHeld => ?_); refine with_tabW limb_Shift.tab21 limb_Shift.bits21 (fun HT_ HW_ => ?_)
             generalize wr.drew = w63 at HO_8 HO_84 HB hHeld ⊢
             refine pure_ (i := 0) (N := some 90) (v := ?_) (a' := ?_) #[true, false, false, false, false, false, false, false, false, false, false, false, false, false, false, false, false] rfl rfl (any_of HT_.out (by kernel_rfl)) (fun _ _ _ h => h) (Or.inl ⟨by rfl, ?_⟩) ?_ ?_
             rotate_left
             ·
              intro w'
              go_simp
              with_reducible rfl
             rotate_left
             ·
              simp only [Act.put, ss_, i64_w, i32_w]
              rfl
             refine pure_ (i := 1) (N := some 91) (v := ?_) (a' := ?_) #[true, true, false, false, false, false, false, false, false, false, false, false, false, false, false, false, false] rfl rfl (any_of HT_.out (by kernel_rfl)) (fun _ _ _ h => h) (Or.inl ⟨by rfl, ?_⟩) ?_ ?_
             rotate_left
             ·
              intro w'
              go_simp
              with_reducible rfl
             rotate_left
             ·
              simp only [Act.put, ss_, i64_w, i32_w]
              rfl
             refine pure_ (i := 2) (N := some 92) (v := ?_) (a' := ?_) #[true, true, true, false, false, false, false, false, false, false, false, false, false, false, false, false, false] rfl rfl (any_of HT_.out (by kernel_rfl)) (fun _ _ _ h => h) (Or.inl ⟨by rfl, ?_⟩) ?_ ?_
             rotate_left
             ·
              intro w'
              go_simp
              with_reducible rfl
             rotate_left
             ·
              simp only [Act.put, ss_, i64_w, i32_w]
              rfl
             refine pure_ (i := 3) (N := some 93) (v := ?_) (a' := ?_) #[true, true, true, true, false, false, false, false, false, false, false, false, false, false, false, false, false] rfl rfl (any_of HT_.out (by kernel_rfl)) (fun _ _ _ h => h) (Or.inl ⟨by rfl, ?_⟩) ?_ ?_
             rotate_left
             ·
              intro w'
              go_simp
              with_reducible rfl
             rotate_left
             ·
              simp only [Act.put, ss_, i64_w, i32_w]
              rfl
             refine pure_ (i := 4) (N := some 94) (v := ?_) (a' := ?_) #[true, true, true, true, true, false, false, false, false, false, false, false, false, false, false, false, false] rfl rfl (any_of HT_.out (by kernel_rfl)) (fun _ _ _ h => h) (Or.inl ⟨by rfl, ?_⟩) ?_ ?_
             rotate_left
             ·
              intro w'
              go_simp
              with_reducible rfl
             rotate_left
             ·
              simp only [Act.put, ss_, i64_w, i32_w]
              rfl
             refine pure_ (i := 5) (N := some 95) (v := ?_) (a' := ?_) #[true, true, true, true, true, true, false, false, false, false, false, false, false, false, false, false, false] rfl rfl (any_of HT_.out (by kernel_rfl)) (fun _ _ _ h => h) (Or.inl ⟨by rfl, ?_⟩) ?_ ?_
             rotate_left
             ·
              intro w'
              go_simp
              with_reducible rfl
             rotate_left
             ·
              simp only [Act.put, ss_, i64_w, i32_w]
              rfl
             refine pure_ (i := 6) (N := some 96) (v := ?_) (a' := ?_) #[true, true, true, true, true, true, true, false, false, false, false, false, false, false, false, false, false] rfl rfl (any_of HT_.out (by kernel_rfl)) (fun _ _ _ h => h) (Or.inl ⟨by rfl, ?_⟩) ?_ ?_
             rotate_left
             ·
              intro w'
              go_simp
              with_reducible rfl
             rotate_left
             ·
              simp only [Act.put, ss_, i64_w, i32_w]
              rfl
             refine pure_ (i := 9) (N := some 99) (v := ?_) (a' := ?_) #[true, true, true, true, true, true, true, false, false, true, false, false, false, false, false, false, false] rfl rfl (any_of HT_.out (by kernel_rfl)) (fun _ _ _ h => h) (Or.inl ⟨by rfl, ?_⟩) ?_ ?_
             rotate_left
             ·
              intro w'
              go_simp
              with_reducible rfl
             rotate_left
             ·
              simp only [Act.put, ss_, i64_w, i32_w]
              rfl
             refine pure_ (i := 10) (N := some 100) (v := ?_) (a' := ?_) #[true, true, true, true, true, true, true, false, false, true, true, false, false, false, false, false, false] rfl rfl (any_of HT_.out (by kernel_rfl)) (fun _ _ _ h => h) (Or.inl ⟨by rfl, ?_⟩) ?_ ?_
             rotate_left
             ·
              intro w'
              go_simp
              with_reducible rfl
             rotate_left
             ·
              simp only [Act.put, ss_, i64_w, i32_w]
              rfl
             refine pure_ (i := 11) (N := some 101) (v := ?_) (a' := ?_) #[true, true, true, true, true, true, true, false, false, true, true, true, false, false, false, false, false] rfl rfl (any_of HT_.out (by kernel_rfl)) (fun _ _ _ h => h) (Or.inl ⟨by rfl, ?_⟩) ?_ ?_
             rotate_left
             ·
              intro w'
              go_simp
              with_reducible rfl
             rotate_left
             ·
              simp only [Act.put, ss_, i64_w, i32_w]
              rfl
             refine pure_ (i := 12) (N := some 102) (v := ?_) (a' := ?_) #[true, true, true, true, true, true, true, false, false, true, true, true, true, false, false, false, false] rfl rfl (any_of HT_.out (by kernel_rfl)) (fun _ _ _ h => h) (Or.inl ⟨by rfl, ?_⟩) ?_ ?_
             rotate_left
             ·
              intro w'
              go_simp
              with_reducible rfl
             rotate_left
             ·
              simp only [Act.put, ss_, i64_w, i32_w]
              rfl
             refine pure_ (i := 13) (N := some 103) (v := ?_) (a' := ?_) #[true, true, true, true, true, true, true, false, false, true, true, true, true, true, false, false, false] rfl rfl (any_of HT_.out (by kernel_rfl)) (fun _ _ _ h => h) (Or.inl ⟨by rfl, ?_⟩) ?_ ?_
             rotate_left
             ·
              intro w'
              go_simp
              with_reducible rfl
             rotate_left
             ·
              simp only [Act.put, ss_, i64_w, i32_w]
              rfl
             refine pure_ (i := 14) (N := some 104) (v := ?_) (a' := ?_) #[true, true, true, true, true, true, true, false, false, true, true, true, true, true, true, false, false] rfl rfl (any_of HT_.out (by kernel_rfl)) (fun _ _ _ h => h) (Or.inl ⟨by rfl, ?_⟩) ?_ ?_
             rotate_left
             ·
              intro w'
              go_simp
              with_reducible rfl
             rotate_left
             ·
              simp only [Act.put, ss_, i64_w, i32_w]
              rfl
             refine one_ (i := 7) (N := some 97) #[true, true, true, true, true, true, true, true, false, true, true, true, true, true, true, false, false] rfl rfl (one_of HT_.out (by kernel_rfl)) (by decide) (fun K hK => ?_)
             refine value_ (w1 := ?_) (v := ?_) (by rfl) rfl ?_ ?_
             rotate_left 2
             ·
              go_simp
              constructor
              ·
               rfl
              ·
               rfl
             refine hK.out _ _ trivial (fun hHeld => ?_)
             clear hK K
             refine norm_ (a' := ?_) ?_ ?_
             rotate_left
             ·
              show Act.put _ (some 97) _ = _
              simp only [Act.put, ss_, i64_w, i32_w]
              rfl
             refine one_ (i := 8) (N := some 98) #[true, true, true, true, true, true, true, true, true, true, true, true, true, true, true, false, false] rfl rfl (one_of HT_.out (by kernel_rfl)) (by decide) (fun K hK => ?_)
             refine Kd.R_append_step (Kd.int .u64) (w0 := w) w.heap.size (by rfl) (.tmp 90) (.tmp 97) 35 22 (.int .u64 0) 8 rfl Try.underlying35 info22 rfl (by decide) (by omega) u8 x8_1 (Go.bits .or .u64 (ji58) x9_1) [.int .u64 (Go.bits .or .u64 (ji58) x9_1)] (fun k_ => (w.heap.size ≤ k_)) (fun _ => False) rfl rfl ?aP (fun _ hk => hk.elim) ?aF ?aO ?aB ?aS ?aL ?_
             (case aP => exact rfl)
             (case aB => exact (bb_ HB))
             (case aF => exact (fun k_ hk => (Nat.le_trans (below_size (bb_ HB)) hk)))
             (case aO => exact (rR_ HO_8))
             (case aS => exact (below_size (bb_ HB)))
             (case aL => have := LMc59.out; omega)
             intro v229 w64 ho hb hg hat
             rw [← Ny228.out] at ho
             have n0_ := Aside0.mk (Kd.V_afterv (ok := (fun k_ => (P0_ k_ ∨ w.heap.size ≤ k_))) (rV_ HO_84) hg hat)
             have n1_ := Aside0.mk (hb)
             have n2_ := Aside0.mk (ho)
             clear HO_84
             clear HB
             clear HO_8
             have HO_84 := n0_
             have HB := n1_
             have HO230 := n2_
             clear n0_ n1_ n2_
             clear ho hb hg hat
             refine hK.out _ _ trivial (fun hHeld => ?_)
             clear hK K
             refine norm_ (a' := ?_) ?_ ?_
             rotate_left
             ·
              show Act.put _ (some 98) _ = _
              simp only [Act.put, ss_, i64_w, i32_w]
              rfl
             refine pure_ (i := 15) (N := some 8) (v := ?_) (a' := ?_) #[true, true, true, true, true, true, true, true, true, true, true, true, true, true, true, true, false] rfl rfl (any_of HT_.out (by kernel_rfl)) (fun _ _ _ h => h) (Or.inl ⟨by rfl, ?_⟩) ?_ ?_
             rotate_left
             ·
              intro w'
              go_simp
              with_reducible rfl
             rotate_left
             ·
              simp only [Act.put, ss_, i64_w, i32_w]
              rfl
             refine pure_ (i := 16) (N := some 9) (v := ?_) (a' := ?_) #[true, true, true, true, true, true, true, true, true, true, true, true, true, true, true, true, true] rfl rfl (any_of HT_.out (by kernel_rfl)) (fun _ _ _ h => h) (Or.inl ⟨by rfl, ?_⟩) ?_ ?_
             rotate_left
             ·
              intro w'
              go_simp
              with_reducible rfl
             rotate_left
             ·
              simp only [Act.put, ss_, i64_w, i32_w]
              rfl
             refine done_ (done_of HT_.out (by kernel_rfl)) ?_
             try go_wp2
             go_roundg k1
             case measure => have := HK1.out; omega
             case rel => exact ⟨(y228), ((ji62) / 2), (wrap64 (x86_1 + 1)), (by first | rfl | (simp; done) | (simp only [← hji62] <;> (first | rfl | simp)) | (simp [*]; done)), sd_, H', ⟨by have := HK1.out; omega⟩, ⟨by (with_reducible repeat (first | apply Kd.R_alloc | apply Kd.R_drewN | apply Kd.R_drew)); exact HO230.out⟩, ⟨by (with_reducible repeat (first | apply Kd.V_alloc | apply Kd.V_drewN | apply Kd.V_drew)); exact HO_84.out⟩, ⟨by repeat (first | (with_reducible first | exact HB.out | apply below_alloc | apply pw_below_drewN | apply below_drew1) | exact HB.out)⟩⟩
            ·
             rw [if_neg c61] at H
             exact absurd H (by simp)
           ·
            rw [if_neg c59] at H
            exact absurd H (by simp)
          ·
           rw [if_neg c57] at H
           exact absurd H (by simp)
         ·
          rw [if_neg c55] at H
          exact absurd H (by simp)
        ·
         rw [if_neg c54] at H
         exact absurd H (by simp)
       ·
        rw [if_neg c53] at H
        have c53b0 : decide (x86_1 < (t205.length : Int)) = false := decide_eq_false c53
        clear c53
        by_cases c65 : x8_1.length < 17592186044416
        ·
         rw [if_pos c65] at H
         have LMc65 := Aside0.mk c65
         clear c65
         obtain ⟨y231, hy231⟩ : ∃ y_ : List Int, y_ = (x8_1 ++ [x9_1]) := ⟨_, rfl⟩
         replace H : ((limb_trim.f k1 y231).bind fun t234 => ((slices_Clone_uint64_uint64.f t234).bind fun t237 => (some t237))) = some r := by first | (rw [hy231]; with_reducible exact H) | (have H2_ := (Option.bind_some _ _).symm.trans H; rw [hy231]; with_reducible exact H2_) | (have H2_ := (Option.bind_some _ _).symm.trans H; with_reducible exact H2_) | with_reducible exact H | (rw [hy231]; exact H) | exact H
         have Ny231 := Aside0.mk hy231
         clear hy231
         replace H := Option.bind_eq_some_iff.mp H
         obtain ⟨t234, A660, H⟩ := H
         replace H : ((slices_Clone_uint64_uint64.f t234).bind fun t237 => (some t237)) = some r := H
         have A66 := Aside0.mk A660
         clear A660
         replace H := Option.bind_eq_some_iff.mp H
         obtain ⟨t237, A670, H⟩ := H
         replace H : (some t237) = some r := H
         have A67 := Aside0.mk A670
         clear A670
         obtain rfl := Option.some.inj H
         go_wp2_with (first | ((with_reducible refine gate_builtin (b := .append) (xs := #[.tmp 106, .tmp 108]) rfl ?_); (try (refine gate_guard (by rfl) ?_; dsimp only)); at_builtin; refine Kd.R_append (Kd.int .u64) (w0 := w) w.heap.size rfl (.tmp 106) (.tmp 108) 35 22 (.int .u64 0) 8 rfl Try.underlying35 info22 rfl (by decide) (by omega) u8 x8_1 x9_1 [.int .u64 x9_1] (fun k_ => (w.heap.size ≤ k_)) (fun _ => False) rfl rfl ?aP (fun _ hk => hk.elim) ?aF ?aO ?aB ?aS ?aL ?_; (case aP => exact rfl); (case aB => exact (bb_ HB)); (case aF => exact (fun k_ hk => (Nat.le_trans (below_size (bb_ HB)) hk))); (case aO => exact (rR_ HO_8)); (case aS => exact (below_size (bb_ HB))); (case aL => have := LMc65.out; omega); intro v232 w68 ho hb hg hat; rw [← Ny231.out] at ho; have n0_ := Aside0.mk (Kd.V_afterv (ok := (fun k_ => (P0_ k_ ∨ w.heap.size ≤ k_))) (rV_ HO_84) hg hat); have n1_ := Aside0.mk (hb); have n2_ := Aside0.mk (ho); clear HO_84; clear HB; clear HO_8; have HO_84 := n0_; have HB := n1_; have HO233 := n2_; clear n0_ n1_ n2_; clear ho hb hg hat; obtain ⟨Ao69, co69, eo69⟩ := Kd.R_slice HO233.out; subst eo69) | ((with_reducible refine gate_callee (f := 110) rfl ?_); refine goesL_ (some 110) rfl rfl Try.func110 (by kernel_rfl) rfl #[.slice Ao69 y231.length co69] rfl mt_ ?_; (with_reducible refine (limb_trim.calls k1 (fun k_ => some k_ = (.slice Ao69 y231.length co69 : Value).ownBlock) _ _ y231 t234 _ ?side1 A66.out).mono ?_); (case side1 => exact Kd.R_V (Kd.R_tight rfl (HO233.out))); rintro e w70 ⟨v235, rfl, ho0, hb⟩; refine ⟨_, rfl, ?_⟩; have n0_ := Aside0.mk (Kd.V_below (rV_ HO_84) hb); have n1_ := Aside0.mk (Kd.R_below (rR_ HO233) hb); have n2_ := Aside0.mk (Kd.V_lower (Kd.V_mono (ok' := fun k_ => (P0_ k_ ∨ w.heap.size ≤ k_)) ho0 (fun k_ hk_ => Or.elim hk_ (fun hs_ => (.inr (((HO233.out).1 k_ hs_.symm)))) (fun hn_ => (.inr (Nat.le_trans (below_size (bb_ HB)) hn_))))) (below_size (bb_ HB))); have n3_ := Aside0.mk (below_step (bb_ HB) hb); clear HO_84; clear HO233; clear HB; have HO_84 := n0_; have HO233 := n1_; have HO236 := n2_; have HB := n3_; clear n0_ n1_ n2_ n3_; (try clear hb); (try clear hb2); (try clear hk); (try clear hi); (try clear ho0); obtain ⟨Ao71, co71, eo71⟩ := Kd.V_slice HO236.out; subst eo71) | ((with_reducible refine gate_callee (f := 116) rfl ?_); refine goesL_ (some 111) rfl rfl Try.func116 (by kernel_rfl) rfl #[.slice Ao71 t234.length co71] rfl mt_ ?_; (with_reducible refine (slices_Clone_uint64_uint64.calls _ _ t234 t237 _ ?side1 ?side2 A67.out).mono ?_); (case side1 => repeat (first | exact (Kd.V_reads' HO236.out).2.2 | (with_reducible refine Kd.C_alloc ?_ _) | (with_reducible refine Kd.C_drewN ?_ _) | (with_reducible refine Kd.C_drew ?_))); (case side2 => exact (Kd.V_reads' HO236.out).2.1); rintro e w72 ⟨v238, rfl, ho0, hb⟩; refine ⟨_, rfl, ?_⟩; have n0_ := Aside0.mk (Kd.V_elder' (rV_ HO_84) (Kd.R_base ho0) hb); have n1_ := Aside0.mk (Kd.R_elder' (rR_ HO233) (Kd.R_base ho0) hb); have n2_ := Aside0.mk (Kd.V_elder' (rV_ HO236) (Kd.R_base ho0) hb); have n3_ := Aside0.mk (Kd.R_lower (Kd.R_new' (Kd.R_newM (M := fun k_ => (w.heap.size ≤ k_)) ho0 (below_size (bb_ HB)) (fun k_ h_ => h_)) (Kd.R_lt (rR_ HO233))) (below_size (bb_ HB))); have n4_ := Aside0.mk (below_step (bb_ HB) hb); clear HO_84; clear HO233; clear HO236; clear HB; have HO_84 := n0_; have HO233 := n1_; have HO236 := n2_; have HO239 := n3_; have HB := n4_; clear n0_ n1_ n2_ n3_ n4_; (try clear hb); (try clear hb2); (try clear hk); (try clear hi); (try clear ho0)))
         go_ret
         exact ⟨_, by first | rfl | (simp [errW_none, errW_some] <;> rfl) | (simp only [← hji44, ← hji45]; first | rfl | (simp [errW_none, errW_some] <;> rfl)) | (simp [*, errW_none, errW_some] <;> rfl), by (with_reducible repeat (first | apply Kd.R_alloc | apply Kd.R_drewN | apply Kd.R_drew)); exact Kd.R_mono HO239.out (fun _ _ => trivial), by repeat (first | (with_reducible first | exact HB.out | apply below_alloc | apply pw_below_drewN | apply below_drew1) | exact HB.out)⟩
        ·
         rw [if_neg c65] at H
         exact absurd H (by simp)
    ·
     rw [if_neg c48] at H
     exact absurd H (by simp)
   ·
    rw [if_neg c47] at H
    exact absurd H (by simp)
  ·
   rw [if_neg c46] at H
   exact absurd H (by simp)

end Go.Proofs.Ytijgeonhbmgikaa.PORatioOne
