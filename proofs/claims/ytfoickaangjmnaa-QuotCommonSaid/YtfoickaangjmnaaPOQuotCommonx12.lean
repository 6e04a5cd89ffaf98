-- Written by a program of this session (pr.py, over the kit's print.py).
import Derived.Test.YtfoickaangjmnaaPOQuotCommonx0
import Derived.Test.YtfoickaangjmnaaPOQuotCommonx9
import Derived.Test.YtfoickaangjmnaaPOQuotCommonx10
import Derived.Test.YtfoickaangjmnaaPOQuotCommonx11
namespace Go.Proofs.Ytfoickaangjmnaa.POQuotCommon
open Go.RowKit Go.Proofs.YtfoickaangjmnaaN Go.Proofs.YtfoickaangjmnaaW.PrintWords Go.Proofs.YtfoickaangjmnaaW.PrintLast Go.Proofs.YtfoickaangjmnaaW.PrintMore
attribute [local go_sem] max2_int min2_int max_two min_two max_three min_three max_four min_four   -- for this text's walks alone
set_option linter.unusedVariables false
set_option linter.unusedSimpArgs false

/-! ### syzygyref03_Div: function 30 -/
mutual
def syzygyref03_Div.j0 : Nat → List Int → List Int → Bool → Option (List Int × List Int × Int)
 | 0, _, _, _ => none
 | k + 1, x0, x1, x21 => if x21 = true then (some (([] : List Int), ([] : List Int), 1)) else (if (x1.length : Int) = 0 then (some (([] : List Int), ([] : List Int), 30)) else (if (x0.length : Int) = 1 then (syzygyref03_Div.j1 k x0 x1 ((x1.length : Int) == 1)) else (syzygyref03_Div.j1 k x0 x1 false)))
def syzygyref03_Div.j1 : Nat → List Int → List Int → Bool → Option (List Int × List Int × Int)
 | 0, _, _, _ => none
 | k + 1, x0, x1, x32 => if x32 = true then (if 0 < (x0.length : Int) then (if 0 < (x1.length : Int) then (if (rd x1 0) = 0 then (none) else ((syzygyref02_Of.f k (IntKind.u64.wrap (Int.tdiv (rd x0 0) (rd x1 0)))).bind fun t400 => ((syzygyref02_Of.f k (Int.tmod (rd x0 0) (rd x1 0))).bind fun t405 => (some (t400, t405, 0))))) else (none)) else (none)) else ((syzygyref01_Digits.f k x0).bind fun t408 => (syzygyref03_Div.l0 k x1 t408 (([] : List Int)) 0))
def syzygyref03_Div.l0 : Nat → List Int → List Int → List Int → Int → Option (List Int × List Int × Int)
 | 0, _, _, _, _ => none
 | k + 1, x1, x7, x8, x9 => if x9 < (x7.length : Int) then (if x8.length < 17592186044416 then (syzygyref03_Div.l0 k x1 x7 (x8 ++ [0]) (wrap64 (x9 + 1))) else (none)) else (syzygyref03_Div.l1 k x1 x7 x8 (([] : List Int)) (wrap64 ((x7.length : Int) - 1)))
def syzygyref03_Div.l1 : Nat → List Int → List Int → List Int → List Int → Int → Option (List Int × List Int × Int)
 | 0, _, _, _, _, _ => none
 | k + 1, x1, x7, x8, x10, x11 => if x11 ≥ 0 then ((syzygyref01_Mul.f k x10 (([4294967296] : List Int))).bind fun t426 => (if 0 ≤ x11 then (if x11 < (x7.length : Int) then ((syzygyref01_Add.f k t426 (([rd x7 x11] : List Int))).bind fun t433 => ((syzygyref01_Cmp.f k t433 x1).bind fun t436 => (if t436 ≥ 0 then ((syzygyref03_times.f k t433 x1).bind fun t437 => (if x11 < (x8.length : Int) then ((some (x8.set (x11 : Int).toNat t437 : List Int)).bind fun y438 => ((syzygyref01_Mul.f k x1 (([rd y438 x11] : List Int))).bind fun t443 => ((syzygyref01_Sub.f k t433 t443).bind fun bt446 => (syzygyref03_Div.l1 k x1 x7 y438 bt446.1 (wrap64 (x11 - 1)))))) else (none))) else (syzygyref03_Div.l1 k x1 x7 x8 t433 (wrap64 (x11 - 1)))))) else (none)) else (none))) else ((syzygyref01_Whole.f k x8).bind fun t420 => (some (t420, x10, 0)))
end
def syzygyref03_Div.f (k : Nat) (l0 : List Int) (l1 : List Int) : Option (List Int × List Int × Int) := (syzygyref02_May.f l0).bind fun t396 => (if t396 = true then ((syzygyref02_May.f l1).bind fun t397 => (syzygyref03_Div.j0 k l0 l1 (!t397))) else (syzygyref03_Div.j0 k l0 l1 true))
theorem syzygyref03_Div.mono_l : ∀ k, (∀ y0 y1 y2, LeO (syzygyref03_Div.j0 k y0 y1 y2) (syzygyref03_Div.j0 (k + 1) y0 y1 y2)) ∧ (∀ y0 y1 y2, LeO (syzygyref03_Div.j1 k y0 y1 y2) (syzygyref03_Div.j1 (k + 1) y0 y1 y2)) ∧ (∀ y0 y1 y2 y3, LeO (syzygyref03_Div.l0 k y0 y1 y2 y3) (syzygyref03_Div.l0 (k + 1) y0 y1 y2 y3)) ∧ (∀ y0 y1 y2 y3 y4, LeO (syzygyref03_Div.l1 k y0 y1 y2 y3 y4) (syzygyref03_Div.l1 (k + 1) y0 y1 y2 y3 y4))
 | 0 => ⟨fun _ _ _ r h => by simp [syzygyref03_Div.j0] at h, fun _ _ _ r h => by simp [syzygyref03_Div.j1] at h, fun _ _ _ _ r h => by simp [syzygyref03_Div.l0] at h, fun _ _ _ _ _ r h => by simp [syzygyref03_Div.l1] at h⟩
 | k + 1 => by
  obtain ⟨ih0, ih1, ih2, ih3⟩ := syzygyref03_Div.mono_l k
  refine ⟨?_, ?_, ?_, ?_⟩
  ·
   intro y0 y1 y2
   unfold syzygyref03_Div.j0
   repeat' first
   | (with_reducible exact ih0 _ _ _)
   | (with_reducible exact ih1 _ _ _)
   | (with_reducible exact ih2 _ _ _ _)
   | (with_reducible exact ih3 _ _ _ _ _)
   | (with_reducible exact syzygyref01_Add.mono _ _ _)
   | (with_reducible exact syzygyref01_Cmp.mono _ _ _)
   | (with_reducible exact syzygyref01_Digits.mono _ _)
   | (with_reducible exact syzygyref01_Mul.mono _ _ _)
   | (with_reducible exact syzygyref01_Sub.mono _ _ _)
   | (with_reducible exact syzygyref01_Whole.mono _ _)
   | (with_reducible exact syzygyref02_Of.mono _ _)
   | (with_reducible exact syzygyref03_times.mono _ _ _)
   | (with_reducible exact LeO.refl _)
   | (with_reducible exact LeO.none _)
   | (with_reducible refine LeO.ite ?_ ?_)
   | (with_reducible refine LeO.bind ?_ (fun _ => ?_))
  ·
   intro y0 y1 y2
   unfold syzygyref03_Div.j1
   repeat' first
   | (with_reducible exact ih0 _ _ _)
   | (with_reducible exact ih1 _ _ _)
   | (with_reducible exact ih2 _ _ _ _)
   | (with_reducible exact ih3 _ _ _ _ _)
   | (with_reducible exact syzygyref01_Add.mono _ _ _)
   | (with_reducible exact syzygyref01_Cmp.mono _ _ _)
   | (with_reducible exact syzygyref01_Digits.mono _ _)
   | (with_reducible exact syzygyref01_Mul.mono _ _ _)
   | (with_reducible exact syzygyref01_Sub.mono _ _ _)
   | (with_reducible exact syzygyref01_Whole.mono _ _)
   | (with_reducible exact syzygyref02_Of.mono _ _)
   | (with_reducible exact syzygyref03_times.mono _ _ _)
   | (with_reducible exact LeO.refl _)
   | (with_reducible exact LeO.none _)
   | (with_reducible refine LeO.ite ?_ ?_)
   | (with_reducible refine LeO.bind ?_ (fun _ => ?_))
  ·
   intro y0 y1 y2 y3
   unfold syzygyref03_Div.l0
   repeat' first
   | (with_reducible exact ih0 _ _ _)
   | (with_reducible exact ih1 _ _ _)
   | (with_reducible exact ih2 _ _ _ _)
   | (with_reducible exact ih3 _ _ _ _ _)
   | (with_reducible exact syzygyref01_Add.mono _ _ _)
   | (with_reducible exact syzygyref01_Cmp.mono _ _ _)
   | (with_reducible exact syzygyref01_Digits.mono _ _)
   | (with_reducible exact syzygyref01_Mul.mono _ _ _)
   | (with_reducible exact syzygyref01_Sub.mono _ _ _)
   | (with_reducible exact syzygyref01_Whole.mono _ _)
   | (with_reducible exact syzygyref02_Of.mono _ _)
   | (with_reducible exact syzygyref03_times.mono _ _ _)
   | (with_reducible exact LeO.refl _)
   | (with_reducible exact LeO.none _)
   | (with_reducible refine LeO.ite ?_ ?_)
   | (with_reducible refine LeO.bind ?_ (fun _ => ?_))
  ·
   intro y0 y1 y2 y3 y4
   unfold syzygyref03_Div.l1
   repeat' first
   | (with_reducible exact ih0 _ _ _)
   | (with_reducible exact ih1 _ _ _)
   | (with_reducible exact ih2 _ _ _ _)
   | (with_reducible exact ih3 _ _ _ _ _)
   | (with_reducible exact syzygyref01_Add.mono _ _ _)
   | (with_reducible exact syzygyref01_Cmp.mono _ _ _)
   | (with_reducible exact syzygyref01_Digits.mono _ _)
   | (with_reducible exact syzygyref01_Mul.mono _ _ _)
   | (with_reducible exact syzygyref01_Sub.mono _ _ _)
   | (with_reducible exact syzygyref01_Whole.mono _ _)
   | (with_reducible exact syzygyref02_Of.mono _ _)
   | (with_reducible exact syzygyref03_times.mono _ _ _)
   | (with_reducible exact LeO.refl _)
   | (with_reducible exact LeO.none _)
   | (with_reducible refine LeO.ite ?_ ?_)
   | (with_reducible refine LeO.bind ?_ (fun _ => ?_))
theorem syzygyref03_Div.mono : ∀ a0 a1 k, LeO (syzygyref03_Div.f k a0 a1) (syzygyref03_Div.f (k + 1) a0 a1) := by
 intro a0 a1 k
 obtain ⟨ih0, ih1, ih2, ih3⟩ := syzygyref03_Div.mono_l k
 unfold syzygyref03_Div.f
 repeat' first
   | (with_reducible exact ih0 _ _ _)
   | (with_reducible exact ih1 _ _ _)
   | (with_reducible exact ih2 _ _ _ _)
   | (with_reducible exact ih3 _ _ _ _ _)
   | (with_reducible exact syzygyref01_Add.mono _ _ _)
   | (with_reducible exact syzygyref01_Cmp.mono _ _ _)
   | (with_reducible exact syzygyref01_Digits.mono _ _)
   | (with_reducible exact syzygyref01_Mul.mono _ _ _)
   | (with_reducible exact syzygyref01_Sub.mono _ _ _)
   | (with_reducible exact syzygyref01_Whole.mono _ _)
   | (with_reducible exact syzygyref02_Of.mono _ _)
   | (with_reducible exact syzygyref03_times.mono _ _ _)
   | (with_reducible exact LeO.refl _)
   | (with_reducible exact LeO.none _)
   | (with_reducible refine LeO.ite ?_ ?_)
   | (with_reducible refine LeO.bind ?_ (fun _ => ?_))
def syzygyref03_Div.T6 : Bool × List (List Nat × List Nat) := (true, [([], []), ([0], [0]), ([1], [1]), ([], []), ([3], [3]), ([4], [4]), ([2, 5], [2, 5]), ([6], [6]), ([], []), ([8], [8]), ([9], [9]), ([], []), ([11], [11]), ([12], [12]), ([10, 13], [10, 13]), ([14, 7], [14]), ([7, 15, 0, 1, 2, 3, 4, 5, 6, 7], [7]), ([15, 16, 0, 1, 2, 3, 4, 5, 6, 7, 8, 9, 10, 11, 12, 13, 14, 15, 16], [15]), ([17, 0, 1, 2, 3, 4, 5, 6, 7, 8, 9, 10, 11, 12, 13, 14, 15, 16, 17], [])])
def syzygyref03_Div.B6 : List Nat := [0, 1, 3, 0, 8, 24, 63, 127, 0, 256, 768, 0, 2048, 6144, 16128, 32767, 65535, 131071, 262143]
theorem syzygyref03_Div.tab6 : rtab .any (opsOf Try.f30 6) = syzygyref03_Div.T6 := by kernel_rfl
theorem syzygyref03_Div.bits6 : waitsOk syzygyref03_Div.T6.2 syzygyref03_Div.B6 = true := by kernel_rfl
def syzygyref03_Div.T17 : Bool × List (List Nat × List Nat) := (true, [([], []), ([], []), ([0, 1], [0, 1]), ([], []), ([], []), ([3, 4], [3, 4]), ([5], [5]), ([6], [6]), ([2, 7, 2], [2, 7]), ([8, 8, 0, 1, 2, 3, 4, 5, 6, 7, 8], [0, 8])])
def syzygyref03_Div.B17 : List Nat := [0, 0, 3, 0, 0, 24, 56, 120, 255, 511]
theorem syzygyref03_Div.tab17 : rtab .any (opsOf Try.f30 17) = syzygyref03_Div.T17 := by kernel_rfl
theorem syzygyref03_Div.bits17 : waitsOk syzygyref03_Div.T17.2 syzygyref03_Div.B17 = true := by kernel_rfl
set_option maxHeartbeats 8000000 in
set_option maxRecDepth 100000 in
theorem syzygyref03_Div.calls (k : Nat) (A0 : Option Addr) (c0 : Nat) (l0 : List Int) (A1 : Option Addr) (c1 : Nat) (l1 : List Int) (r1 : List Int) (r2 : List Int) (r3 : Int) (w : World) (hr0 : Kd.C (Kd.int .u64) w A0 l0.length l0) (hc0 : l0.length ≤ c0) (hr1 : Kd.C (Kd.int .u64) w A1 l1.length l1) (hc1 : l1.length ≤ c1) (h : syzygyref03_Div.f k l0 l1 = some (r1, r2, r3)) :
  Calls Try.prog 30 #[.slice A0 l0.length c0, .slice A1 l1.length c1] w fun e w' => ∃ v0_ v1_ : Value, e = .returned (.tuple #[v0_, v1_, .int .i64 r3]) ∧ Kd.R (Kd.int .u64) 50 w' w.heap.size (fun k_ => some k_ ≠ (v1_ : Value).ownBlock) v0_ r1 ∧ Kd.R (Kd.int .u64) 50 w' w.heap.size (fun k_ => some k_ ≠ (v0_ : Value).ownBlock) v1_ r2 ∧ Below w.heap.size w w' := by
 have HR0 := Aside0.mk hr0
 have HC0 := Aside0.mk hc0
 clear hr0 hc0
 have HR1 := Aside0.mk hr1
 have HC1 := Aside0.mk hc1
 clear hr1 hc1
 have HB := Aside0.mk (Below.refl w.heap.size w)
 have H : ((syzygyref02_May.f l0).bind fun t396 => (if t396 = true then ((syzygyref02_May.f l1).bind fun t397 => (syzygyref03_Div.j0 k l0 l1 (!t397))) else (syzygyref03_Div.j0 k l0 l1 true))) = some (r1, r2, r3) := h
 clear h
 have HC3 := Aside0.mk H
 clear H
 go_enter Try.func30, Try.ntmps30
 go_upto_region 1 with (fail)
 go_cut [21] (fun v21 wc => ∃ (kq : Nat) (x21_2 : Bool), v21 = .bool x21_2 ∧ Aside0 (syzygyref03_Div.j0 kq l0 l1 x21_2 = some (r1, r2, r3)) ∧ Aside0 (kq ≤ k) ∧ Aside0 (Below w.heap.size w wc))
 case first =>
  have H := HC3.out
  clear HC3
  replace H := Option.bind_eq_some_iff.mp H
  obtain ⟨t396, A40, H⟩ := H
  replace H : (if t396 = true then ((syzygyref02_May.f l1).bind fun t397 => (syzygyref03_Div.j0 k l0 l1 (!t397))) else (syzygyref03_Div.j0 k l0 l1 true)) = some (r1, r2, r3) := H
  have A4 := Aside0.mk A40
  clear A40
  by_cases c5 : t396 = true
  ·
   subst c5
   have H1 : ((syzygyref02_May.f l1).bind fun t397 => (syzygyref03_Div.j0 k l0 l1 (!t397))) = some (r1, r2, r3) := by rw [if_pos rfl] at H; exact H
   clear H
   have H := H1
   clear H1
   replace H := Option.bind_eq_some_iff.mp H
   obtain ⟨t397, A60, H⟩ := H
   replace H : (syzygyref03_Div.j0 k l0 l1 (!t397)) = some (r1, r2, r3) := H
   have A6 := Aside0.mk A60
   clear A60
   have H' := Aside0.mk H
   clear H
   go_wp2_with (first | ((with_reducible refine gate_callee (f := 42) rfl ?_); refine goesL_ (some 15) rfl rfl Try.func42 (by kernel_rfl) rfl #[.slice A0 l0.length c0] rfl mt_ ?_; (with_reducible refine (syzygyref02_May.calls _ _ l0 true _ ?side1 ?side2 A4.out).mono ?_); (case side1 => exact cc_ (Kd.C_below HR0.out HB.out)); (case side2 => exact HC0.out); rintro e w' ⟨rfl, ⟨nd, rfl⟩⟩; refine ⟨_, rfl, ?_⟩) | ((with_reducible refine gate_dst (N := 19) rfl ?_); (try (refine gate_guard (by rfl) ?_; dsimp only)); refine gate_guard (by first | rfl | kernel_rfl) ?_; dsimp only; (with_reducible refine gate_callee (f := 42) rfl ?_); refine goesL_ (some 19) rfl rfl Try.func42 (by kernel_rfl) rfl #[.slice A1 l1.length c1] rfl mt_ ?_; (with_reducible refine (syzygyref02_May.calls _ _ l1 t397 _ ?side1 ?side2 A6.out).mono ?_); (case side1 => repeat (first | exact (Kd.C_below HR1.out (bb_ HB)) | (with_reducible refine Kd.C_alloc ?_ _) | (with_reducible refine Kd.C_drewN ?_ _) | (with_reducible refine Kd.C_drew ?_))); (case side2 => exact HC1.out); rintro e w' ⟨rfl, ⟨nd, rfl⟩⟩; refine ⟨_, rfl, ?_⟩))
   go_meet
   case rel => exact ⟨_, (!t397), sd_, H', ⟨by first | omega | exact Nat.le_refl _⟩, ⟨by repeat (first | (with_reducible first | exact HB.out | apply below_alloc | apply pw_below_drewN | apply below_drew1) | exact HB.out)⟩⟩
  ·
   replace c5 := Bool.eq_false_iff.mpr c5
   subst c5
   have H1 : (syzygyref03_Div.j0 k l0 l1 true) = some (r1, r2, r3) := by rw [if_neg (show ¬ (false = true) by decide)] at H; exact H
   clear H
   have H := H1
   clear H1
   have H' := Aside0.mk H
   clear H
   go_wp2_with (first | ((with_reducible refine gate_callee (f := 42) rfl ?_); refine goesL_ (some 15) rfl rfl Try.func42 (by kernel_rfl) rfl #[.slice A0 l0.length c0] rfl mt_ ?_; (with_reducible refine (syzygyref02_May.calls _ _ l0 false _ ?side1 ?side2 A4.out).mono ?_); (case side1 => exact cc_ (Kd.C_below HR0.out HB.out)); (case side2 => exact HC0.out); rintro e w' ⟨rfl, ⟨nd, rfl⟩⟩; refine ⟨_, rfl, ?_⟩))
   go_meet
   case rel => exact ⟨_, (true), sd_, H', ⟨by first | omega | exact Nat.le_refl _⟩, ⟨by repeat (first | (with_reducible first | exact HB.out | apply below_alloc | apply pw_below_drewN | apply below_drew1) | exact HB.out)⟩⟩
 case rest =>
  clear HC3
  try clear c1
  try clear p2
  try clear c3
  try clear c4
  try clear c5
  obtain ⟨kq, x21_2, rfl, HA, HJ2, HB⟩ := hcut
  cases kq with
  | zero => exact absurd HA.out (by simp [syzygyref03_Div.j0])
  | succ kj2 =>
   have H := HA.out
   clear HA
   simp only [syzygyref03_Div.j0] at H
   by_cases c7 : x21_2 = true
   ·
    subst c7
    have H1 : (some (([] : List Int), ([] : List Int), 1)) = some (r1, r2, r3) := by rw [if_pos rfl] at H; exact H
    clear H
    have H := H1
    clear H1
    simp only [Option.some.injEq, Prod.mk.injEq] at H
    obtain ⟨rfl, rfl, rfl⟩ := H
    go_wp2
    go_ret3
    exact ⟨_, _, by first | rfl | (simp [errW_none, errW_some] <;> rfl) | (simp [*, errW_none, errW_some] <;> rfl), by first | exact Kd.R_nil _ _ _ _ _ | exact Kd.N_nil _ _ _ _ _ | exact Kd.V_nil _ _ _ _ _ | exact Kd.Q_nil _ _ _ _ _ | exact Kd.S_nil _ _ _ _ _, by first | exact Kd.R_nil _ _ _ _ _ | exact Kd.N_nil _ _ _ _ _ | exact Kd.V_nil _ _ _ _ _ | exact Kd.Q_nil _ _ _ _ _ | exact Kd.S_nil _ _ _ _ _, by repeat (first | (with_reducible first | exact HB.out | apply below_alloc | apply pw_below_drewN | apply below_drew1) | exact HB.out)⟩
   ·
    replace c7 := Bool.eq_false_iff.mpr c7
    subst c7
    have H1 : (if (l1.length : Int) = 0 then (some (([] : List Int), ([] : List Int), 30)) else (if (l0.length : Int) = 1 then (syzygyref03_Div.j1 kj2 l0 l1 ((l1.length : Int) == 1)) else (syzygyref03_Div.j1 kj2 l0 l1 false))) = some (r1, r2, r3) := by rw [if_neg (show ¬ (false = true) by decide)] at H; exact H
    clear H
    have H := H1
    clear H1
    by_cases c8 : (l1.length : Int) = 0
    ·
     rw [if_pos c8] at H
     have c8b0 : ((l1.length : Int) == 0) = true := beq_iff_eq.mpr c8
     have c8b1 : ((l1.length : Int) != 0) = false := bne_eq_false_iff_eq.mpr c8
     clear c8
     simp only [Option.some.injEq, Prod.mk.injEq] at H
     obtain ⟨rfl, rfl, rfl⟩ := H
     go_wp2
     go_ret3
     exact ⟨_, _, by first | rfl | (simp [errW_none, errW_some] <;> rfl) | (simp [*, errW_none, errW_some] <;> rfl), by first | exact Kd.R_nil _ _ _ _ _ | exact Kd.N_nil _ _ _ _ _ | exact Kd.V_nil _ _ _ _ _ | exact Kd.Q_nil _ _ _ _ _ | exact Kd.S_nil _ _ _ _ _, by first | exact Kd.R_nil _ _ _ _ _ | exact Kd.N_nil _ _ _ _ _ | exact Kd.V_nil _ _ _ _ _ | exact Kd.Q_nil _ _ _ _ _ | exact Kd.S_nil _ _ _ _ _, by repeat (first | (with_reducible first | exact HB.out | apply below_alloc | apply pw_below_drewN | apply below_drew1) | exact HB.out)⟩
    ·
     rw [if_neg c8] at H
     have c8b0 : ((l1.length : Int) == 0) = false := beq_eq_false_iff_ne.mpr c8
     have c8b1 : ((l1.length : Int) != 0) = true := bne_iff_ne.mpr c8
     have c8b2 : ¬ (l1 = []) := fun h_ => c8 (by rw [h_]; rfl)
     have HC9 := Aside0.mk H
     clear H
     go_upto_region 5 with (fail)
     go_cut [32] (fun v32 wc => ∃ (kq : Nat) (x32_8 : Bool), v32 = .bool x32_8 ∧ Aside0 (syzygyref03_Div.j1 kq l0 l1 x32_8 = some (r1, r2, r3)) ∧ Aside0 (kq ≤ kj2) ∧ Aside0 (Below w.heap.size w wc))
     case first =>
      have H := HC9.out
      clear HC9
      by_cases c10 : (l0.length : Int) = 1
      ·
       rw [if_pos c10] at H
       have c10b0 : ((l0.length : Int) == 1) = true := beq_iff_eq.mpr c10
       have c10b1 : ((l0.length : Int) != 1) = false := bne_eq_false_iff_eq.mpr c10
       clear c10
       (first | rw [c10b0] | (simp only [i64_w, i32_w]; rw [c10b0]) | skip)
       have H' := Aside0.mk H
       clear H
       go_wp2
       go_meet
       case rel => exact ⟨_, (((l1.length : Int) == 1)), sd_, H', ⟨by have := HJ2.out; first | omega | exact Nat.le_refl _⟩, ⟨by repeat (first | (with_reducible first | exact HB.out | apply below_alloc | apply pw_below_drewN | apply below_drew1) | exact HB.out)⟩⟩
      ·
       rw [if_neg c10] at H
       have c10b0 : ((l0.length : Int) == 1) = false := beq_eq_false_iff_ne.mpr c10
       have c10b1 : ((l0.length : Int) != 1) = true := bne_iff_ne.mpr c10
       (first | rw [c10b0] | (simp only [i64_w, i32_w]; rw [c10b0]) | skip)
       have H' := Aside0.mk H
       clear H
       go_wp2
       go_meet
       case rel => exact ⟨_, (false), sd_, H', ⟨by have := HJ2.out; first | omega | exact Nat.le_refl _⟩, ⟨by repeat (first | (with_reducible first | exact HB.out | apply below_alloc | apply pw_below_drewN | apply below_drew1) | exact HB.out)⟩⟩
     case rest =>
      clear HC9
      try clear c1
      try clear p2
      try clear c3
      try clear c4
      try clear c5
      try clear c7
      try clear c8
      try clear c8b0
      try clear c8b1
      try clear c8b2
      try clear c10
      try clear c10b0
      try clear c10b1
      try clear p2
      obtain ⟨kq, x32_8, rfl, HA, HJ8, HB⟩ := hcut
      cases kq with
      | zero => exact absurd HA.out (by simp [syzygyref03_Div.j1])
      | succ kj8 =>
       have H := HA.out
       clear HA
       simp only [syzygyref03_Div.j1] at H
       by_cases c11 : x32_8 = true
       ·
        subst c11
        have H1 : (if 0 < (l0.length : Int) then (if 0 < (l1.length : Int) then (if (rd l1 0) = 0 then (none) else ((syzygyref02_Of.f kj8 (IntKind.u64.wrap (Int.tdiv (rd l0 0) (rd l1 0)))).bind fun t400 => ((syzygyref02_Of.f kj8 (Int.tmod (rd l0 0) (rd l1 0))).bind fun t405 => (some (t400, t405, 0))))) else (none)) else (none)) = some (r1, r2, r3) := by rw [if_pos rfl] at H; exact H
        clear H
        have H := H1
        clear H1
        by_cases c12 : 0 < (l0.length : Int)
        ·
         rw [if_pos c12] at H
         have c12b0 : decide (0 < (l0.length : Int)) = true := decide_eq_true c12
         have c12b1 : decide (0 < l0.length) = true := decide_eq_true (by omega)
         clear c12
         by_cases c13 : 0 < (l1.length : Int)
         ·
          rw [if_pos c13] at H
          have c13b0 : decide (0 < (l1.length : Int)) = true := decide_eq_true c13
          have c13b1 : decide (0 < l1.length) = true := decide_eq_true (by omega)
          clear c13
          by_cases c14 : (rd l1 0) = 0
          ·
           rw [if_pos c14] at H
           exact absurd H (by simp)
          ·
           rw [if_neg c14] at H
           have c14b0 : ((rd l1 0) == 0) = false := beq_eq_false_iff_ne.mpr c14
           have c14b1 : ((rd l1 0) != 0) = true := bne_iff_ne.mpr c14
           replace H := Option.bind_eq_some_iff.mp H
           obtain ⟨t400, A150, H⟩ := H
           replace H : ((syzygyref02_Of.f kj8 (Int.tmod (rd l0 0) (rd l1 0))).bind fun t405 => (some (t400, t405, 0))) = some (r1, r2, r3) := H
           have A15 := Aside0.mk A150
           clear A150
           replace H := Option.bind_eq_some_iff.mp H
           obtain ⟨t405, A160, H⟩ := H
           replace H : (some (t400, t405, 0)) = some (r1, r2, r3) := H
           have A16 := Aside0.mk A160
           clear A160
           simp only [Option.some.injEq, Prod.mk.injEq] at H
           obtain ⟨rfl, rfl, rfl⟩ := H
           try go_wp2
           have n0_ := Aside0.mk (below_drew1 HB.out)
           clear HB
           have HB := n0_
           clear n0_
           have p398 : 0 ≤ (0 : Int) := (by omega)
           have q398 : 0 < (l0.length : Int) := of_decide_eq_true am_
           obtain ⟨ad398, e398, hx398_0⟩ := Kd.at_int HR0.out 0 p398 q398
           have hw398_0 := hx398_0
           (try rw [show ((0 : Int)).toNat = 0 from rfl] at hw398_0)
           (try rw [show 0 * 1 = 0 from rfl] at hw398_0)
           (try rw [Addr.add_zero'] at hw398_0)
           cases e398
           have qi398 : (0 < l0.length) = True := eq_true (by omega)
           (try rw [show ((0 : Int)).toNat = 0 from rfl] at hx398_0)
           (try rw [Addr.add_zero'] at hx398_0)
           replace hx398_0 := (HB.out.cell (World.block_lt_of_cell? w _ hx398_0)).trans hx398_0
           replace p398 := eq_true p398
           replace q398 := eq_true q398
           have p399 : 0 ≤ (0 : Int) := (by omega)
           have q399 : 0 < (l1.length : Int) := of_decide_eq_true am_
           obtain ⟨ad399, e399, hx399_0⟩ := Kd.at_int HR1.out 0 p399 q399
           have hw399_0 := hx399_0
           (try rw [show ((0 : Int)).toNat = 0 from rfl] at hw399_0)
           (try rw [show 0 * 1 = 0 from rfl] at hw399_0)
           (try rw [Addr.add_zero'] at hw399_0)
           cases e399
           have qi399 : (0 < l1.length) = True := eq_true (by omega)
           (try rw [show ((0 : Int)).toNat = 0 from rfl] at hx399_0)
           (try rw [Addr.add_zero'] at hx399_0)
           replace hx399_0 := (HB.out.cell (World.block_lt_of_cell? w _ hx399_0)).trans hx399_0
           replace p399 := eq_true p399
           replace q399 := eq_true q399
           have p403 : 0 ≤ (0 : Int) := (by omega)
           have q403 : 0 < (l0.length : Int) := of_decide_eq_true am_
           obtain ⟨ad403, e403, hx403_0⟩ := Kd.at_int HR0.out 0 p403 q403
           have hw403_0 := hx403_0
           (try rw [show ((0 : Int)).toNat = 0 from rfl] at hw403_0)
           (try rw [show 0 * 1 = 0 from rfl] at hw403_0)
           (try rw [Addr.add_zero'] at hw403_0)
           obtain rfl : ad398 = ad403 := (by injection e403)
           have qi403 : (0 < l0.length) = True := eq_true (by omega)
           (try rw [show ((0 : Int)).toNat = 0 from rfl] at hx403_0)
           (try rw [Addr.add_zero'] at hx403_0)
           replace hx403_0 := (HB.out.cell (World.block_lt_of_cell? w _ hx403_0)).trans hx403_0
           replace p403 := eq_true p403
           replace q403 := eq_true q403
           have p404 : 0 ≤ (0 : Int) := (by omega)
           have q404 : 0 < (l1.length : Int) := of_decide_eq_true am_
           obtain ⟨ad404, e404, hx404_0⟩ := Kd.at_int HR1.out 0 p404 q404
           have hw404_0 := hx404_0
           (try rw [show ((0 : Int)).toNat = 0 from rfl] at hw404_0)
           (try rw [show 0 * 1 = 0 from rfl] at hw404_0)
           (try rw [Addr.add_zero'] at hw404_0)
           obtain rfl : ad399 = ad404 := (by injection e404)
           have qi404 : (0 < l1.length) = True := eq_true (by omega)
           (try rw [show ((0 : Int)).toNat = 0 from rfl] at hx404_0)
           (try rw [Addr.add_zero'] at hx404_0)
           replace hx404_0 := (HB.out.cell (World.block_lt_of_cell? w _ hx404_0)).trans hx404_0
           replace p404 := eq_true p404
           replace q404 := eq_true q404
           refine start_ (n := 19) (S := fun w' => w'.cell? ad398 = some (.int .u64 (rd l0 0)) ∧ w'.cell? ad399 = some (.int .u64 (rd l1 0)) ∧ w'.cell? ad398 = some (.int .u64 (rd l0 0)) ∧ w'.cell? ad399 = some (.int .u64 (rd l1 0))) (ds := []) #[false, false, false, false, false, false, false, false, false, false, false, false, false, false, false, false, false, false, false] (by kernel_rfl) rfl rfl ⟨((HB.out.cell (World.block_lt_of_cell? w _ hw398_0)).trans hw398_0), ((HB.out.cell (World.block_lt_of_cell? w _ hw399_0)).trans hw399_0), ((HB.out.cell (World.block_lt_of_cell? w _ hw403_0)).trans hw403_0), ((HB.out.cell (World.block_lt_of_cell? w _ hw404_0)).trans hw404_0)⟩ (fun hHeld => ?_); refine with_tabW syzygyref03_Div.tab6 syzygyref03_Div.bits6 (fun HT_ HW_ => ?_)
           generalize wc.drew = w17 at HB hx398_0 hx399_0 hx403_0 hx404_0 hHeld ⊢
           refine pure_ (i := 0) (N := some 33) (v := ?_) (a' := ?_) #[true, false, false, false, false, false, false, false, false, false, false, false, false, false, false, false, false, false, false] rfl rfl (any_of HT_.out (by kernel_rfl)) (fun _ _ _ h => h) (Or.inl ⟨by rfl, ?_⟩) ?_ ?_
           rotate_left
           ·
            intro w'
            go_simp
            with_reducible rfl
           rotate_left
           ·
            simp only [Act.put, ss_, i64_w, i32_w]
            rfl
           refine pure_ (i := 1) (N := some 34) (v := ?_) (a' := ?_) #[true, true, false, false, false, false, false, false, false, false, false, false, false, false, false, false, false, false, false] rfl rfl (any_of HT_.out (by kernel_rfl)) (fun _ _ _ h => h) (Or.inl ⟨by rfl, ?_⟩) ?_ ?_
           rotate_left
           ·
            intro w'
            go_simp
            with_reducible rfl
           rotate_left
           ·
            simp only [Act.put, ss_, i64_w, i32_w]
            rfl
           refine pure_ (i := 3) (N := some 36) (v := ?_) (a' := ?_) #[true, true, false, true, false, false, false, false, false, false, false, false, false, false, false, false, false, false, false] rfl rfl (any_of HT_.out (by kernel_rfl)) (fun _ _ _ h => h) (Or.inl ⟨by rfl, ?_⟩) ?_ ?_
           rotate_left
           ·
            intro w'
            go_simp
            with_reducible rfl
           rotate_left
           ·
            simp only [Act.put, ss_, i64_w, i32_w]
            rfl
           refine pure_ (i := 4) (N := some 37) (v := ?_) (a' := ?_) #[true, true, false, true, true, false, false, false, false, false, false, false, false, false, false, false, false, false, false] rfl rfl (any_of HT_.out (by kernel_rfl)) (fun _ _ _ h => h) (Or.inl ⟨by rfl, ?_⟩) ?_ ?_
           rotate_left
           ·
            intro w'
            go_simp
            with_reducible rfl
           rotate_left
           ·
            simp only [Act.put, ss_, i64_w, i32_w]
            rfl
           refine pure_ (i := 8) (N := some 41) (v := ?_) (a' := ?_) #[true, true, false, true, true, false, false, false, true, false, false, false, false, false, false, false, false, false, false] rfl rfl (any_of HT_.out (by kernel_rfl)) (fun _ _ _ h => h) (Or.inl ⟨by rfl, ?_⟩) ?_ ?_
           rotate_left
           ·
            intro w'
            go_simp
            with_reducible rfl
           rotate_left
           ·
            simp only [Act.put, ss_, i64_w, i32_w]
            rfl
           refine pure_ (i := 9) (N := some 42) (v := ?_) (a' := ?_) #[true, true, false, true, true, false, false, false, true, true, false, false, false, false, false, false, false, false, false] rfl rfl (any_of HT_.out (by kernel_rfl)) (fun _ _ _ h => h) (Or.inl ⟨by rfl, ?_⟩) ?_ ?_
           rotate_left
           ·
            intro w'
            go_simp
            with_reducible rfl
           rotate_left
           ·
            simp only [Act.put, ss_, i64_w, i32_w]
            rfl
           refine pure_ (i := 11) (N := some 44) (v := ?_) (a' := ?_) #[true, true, false, true, true, false, false, false, true, true, false, true, false, false, false, false, false, false, false] rfl rfl (any_of HT_.out (by kernel_rfl)) (fun _ _ _ h => h) (Or.inl ⟨by rfl, ?_⟩) ?_ ?_
           rotate_left
           ·
            intro w'
            go_simp
            with_reducible rfl
           rotate_left
           ·
            simp only [Act.put, ss_, i64_w, i32_w]
            rfl
           refine pure_ (i := 12) (N := some 45) (v := ?_) (a' := ?_) #[true, true, false, true, true, false, false, false, true, true, false, true, true, false, false, false, false, false, false] rfl rfl (any_of HT_.out (by kernel_rfl)) (fun _ _ _ h => h) (Or.inl ⟨by rfl, ?_⟩) ?_ ?_
           rotate_left
           ·
            intro w'
            go_simp
            with_reducible rfl
           rotate_left
           ·
            simp only [Act.put, ss_, i64_w, i32_w]
            rfl
           refine take_ (i := 2) (N := some 35) (v := ?_) (a' := ?_) #[true, true, true, true, true, false, false, false, true, true, false, true, true, false, false, false, false, false, false] rfl rfl (take_ofW HT_.out HW_.out (by kernel_rfl)) (fun _ _ _ h => h) (Or.inl ⟨by rfl, ?_⟩) hHeld ?_ ?_
           rotate_left
           ·
            rintro w' ⟨s0, s1, s2, s3⟩
            go_simp
            with_reducible rfl
           rotate_left
           ·
            simp only [Act.put, ss_, i64_w, i32_w]
            rfl
           refine take_ (i := 5) (N := some 38) (v := ?_) (a' := ?_) #[true, true, true, true, true, true, false, false, true, true, false, true, true, false, false, false, false, false, false] rfl rfl (take_ofW HT_.out HW_.out (by kernel_rfl)) (fun _ _ _ h => h) (Or.inl ⟨by rfl, ?_⟩) hHeld ?_ ?_
           rotate_left
           ·
            rintro w' ⟨s0, s1, s2, s3⟩
            go_simp
            with_reducible rfl
           rotate_left
           ·
            simp only [Act.put, ss_, i64_w, i32_w]
            rfl
           refine pure_ (i := 6) (N := some 39) (v := ?_) (a' := ?_) #[true, true, true, true, true, true, true, false, true, true, false, true, true, false, false, false, false, false, false] rfl rfl (any_of HT_.out (by kernel_rfl)) (fun _ _ _ h => h) (Or.inl ⟨by rfl, ?_⟩) ?_ ?_
           rotate_left
           ·
            intro w'
            go_simp
            with_reducible rfl
           rotate_left
           ·
            simp only [Act.put, ss_, i64_w, i32_w]
            rfl
           refine take_ (i := 10) (N := some 43) (v := ?_) (a' := ?_) #[true, true, true, true, true, true, true, false, true, true, true, true, true, false, false, false, false, false, false] rfl rfl (take_ofW HT_.out HW_.out (by kernel_rfl)) (fun _ _ _ h => h) (Or.inl ⟨by rfl, ?_⟩) hHeld ?_ ?_
           rotate_left
           ·
            rintro w' ⟨s0, s1, s2, s3⟩
            go_simp
            with_reducible rfl
           rotate_left
           ·
            simp only [Act.put, ss_, i64_w, i32_w]
            rfl
           refine take_ (i := 13) (N := some 46) (v := ?_) (a' := ?_) #[true, true, true, true, true, true, true, false, true, true, true, true, true, true, false, false, false, false, false] rfl rfl (take_ofW HT_.out HW_.out (by kernel_rfl)) (fun _ _ _ h => h) (Or.inl ⟨by rfl, ?_⟩) hHeld ?_ ?_
           rotate_left
           ·
            rintro w' ⟨s0, s1, s2, s3⟩
            go_simp
            with_reducible rfl
           rotate_left
           ·
            simp only [Act.put, ss_, i64_w, i32_w]
            rfl
           refine pure_ (i := 14) (N := some 47) (v := ?_) (a' := ?_) #[true, true, true, true, true, true, true, false, true, true, true, true, true, true, true, false, false, false, false] rfl rfl (any_of HT_.out (by kernel_rfl)) (fun _ _ _ h => h) (Or.inl ⟨by rfl, ?_⟩) ?_ ?_
           rotate_left
           ·
            intro w'
            go_simp
            with_reducible rfl
           rotate_left
           ·
            simp only [Act.put, ss_, i64_w, i32_w]
            rfl
           refine one_ (i := 7) (N := some 40) #[true, true, true, true, true, true, true, true, true, true, true, true, true, true, true, false, false, false, false] rfl rfl (one_of HT_.out (by kernel_rfl)) (by decide) (fun K hK => ?_)
           refine goes_ Try.func69 (by kernel_rfl) rfl #[.int .u64 (IntKind.u64.wrap (Int.tdiv (rd l0 0) (rd l1 0)))] (by rfl) rfl rfl mt_ ?_
           with_reducible refine (syzygyref02_Of.calls kj8 (IntKind.u64.wrap (Int.tdiv (rd l0 0) (rd l1 0))) t400 _ A15.out).mono ?_
           rintro e w18 ⟨v401, rfl, ho0, hb⟩
           refine ⟨_, rfl, ?_⟩
           have n0_ := Aside0.mk (Kd.R_lower ho0 (below_size (bb_ HB)))
           have n1_ := Aside0.mk (below_step (bb_ HB) hb)
           clear HB
           have HO402 := n0_
           have HB := n1_
           clear n0_ n1_
           (try clear hb)
           (try clear hb2)
           (try clear hk)
           (try clear hi)
           (try clear ho0)
           refine hK.out _ _ ⟨((HB.out.cell (World.block_lt_of_cell? w _ hw398_0)).trans hw398_0), ((HB.out.cell (World.block_lt_of_cell? w _ hw399_0)).trans hw399_0), ((HB.out.cell (World.block_lt_of_cell? w _ hw403_0)).trans hw403_0), ((HB.out.cell (World.block_lt_of_cell? w _ hw404_0)).trans hw404_0)⟩ (fun hHeld => ?_)
           clear hK K
           refine norm_ (a' := ?_) ?_ ?_
           rotate_left
           ·
            show Act.put _ (some 40) _ = _
            simp only [Act.put, ss_, i64_w, i32_w]
            rfl
           refine one_ (i := 15) (N := some 48) #[true, true, true, true, true, true, true, true, true, true, true, true, true, true, true, true, false, false, false] rfl rfl (one_of HT_.out (by kernel_rfl)) (by decide) (fun K hK => ?_)
           refine goes_ Try.func69 (by kernel_rfl) rfl #[.int .u64 (Int.tmod (rd l0 0) (rd l1 0))] (by rfl) rfl rfl mt_ ?_
           with_reducible refine (syzygyref02_Of.calls kj8 (Int.tmod (rd l0 0) (rd l1 0)) t405 _ A16.out).mono ?_
           rintro e w19 ⟨v406, rfl, ho0, hb⟩
           refine ⟨_, rfl, ?_⟩
           have n0_ := Aside0.mk (Kd.R_elder' (rR_ HO402) (Kd.R_base ho0) hb)
           have n1_ := Aside0.mk (Kd.R_lower (Kd.R_new' ho0 (Kd.R_lt (rR_ HO402))) (below_size (bb_ HB)))
           have n2_ := Aside0.mk (below_step (bb_ HB) hb)
           clear HO402
           clear HB
           have HO402 := n0_
           have HO407 := n1_
           have HB := n2_
           clear n0_ n1_ n2_
           (try clear hb)
           (try clear hb2)
           (try clear hk)
           (try clear hi)
           (try clear ho0)
           refine hK.out _ _ ⟨((HB.out.cell (World.block_lt_of_cell? w _ hw398_0)).trans hw398_0), ((HB.out.cell (World.block_lt_of_cell? w _ hw399_0)).trans hw399_0), ((HB.out.cell (World.block_lt_of_cell? w _ hw403_0)).trans hw403_0), ((HB.out.cell (World.block_lt_of_cell? w _ hw404_0)).trans hw404_0)⟩ (fun hHeld => ?_)
           clear hK K
           refine norm_ (a' := ?_) ?_ ?_
           rotate_left
           ·
            show Act.put _ (some 48) _ = _
            simp only [Act.put, ss_, i64_w, i32_w]
            rfl
           refine pure_ (i := 16) (N := some 4) (v := ?_) (a' := ?_) #[true, true, true, true, true, true, true, true, true, true, true, true, true, true, true, true, true, false, false] rfl rfl (any_of HT_.out (by kernel_rfl)) (fun _ _ _ h => h) (Or.inl ⟨by rfl, ?_⟩) ?_ ?_
           rotate_left
           ·
            intro w'
            go_simp
            with_reducible rfl
           rotate_left
           ·
            simp only [Act.put, ss_, i64_w, i32_w]
            rfl
           refine pure_ (i := 17) (N := some 5) (v := ?_) (a' := ?_) #[true, true, true, true, true, true, true, true, true, true, true, true, true, true, true, true, true, true, false] rfl rfl (any_of HT_.out (by kernel_rfl)) (fun _ _ _ h => h) (Or.inl ⟨by rfl, ?_⟩) ?_ ?_
           rotate_left
           ·
            intro w'
            go_simp
            with_reducible rfl
           rotate_left
           ·
            simp only [Act.put, ss_, i64_w, i32_w]
            rfl
           refine pure_ (i := 18) (N := some 6) (v := ?_) (a' := ?_) #[true, true, true, true, true, true, true, true, true, true, true, true, true, true, true, true, true, true, true] rfl rfl (any_of HT_.out (by kernel_rfl)) (fun _ _ _ h => h) (Or.inl ⟨by rfl, ?_⟩) ?_ ?_
           rotate_left
           ·
            intro w'
            go_simp
            with_reducible rfl
           rotate_left
           ·
            simp only [Act.put, ss_, i64_w, i32_w]
            rfl
           refine done_ (done_of HT_.out (by kernel_rfl)) ?_
           try go_wp2
           go_ret3
           exact ⟨_, _, by first | rfl | (simp [errW_none, errW_some] <;> rfl) | (simp [*, errW_none, errW_some] <;> rfl), by (with_reducible repeat (first | apply Kd.R_alloc | apply Kd.R_drewN | apply Kd.R_drew)); exact Kd.R_mono HO402.out (fun _ hk => hk.2), by (with_reducible repeat (first | apply Kd.R_alloc | apply Kd.R_drewN | apply Kd.R_drew)); exact Kd.R_mono HO407.out (fun _ hk => hk.2), by repeat (first | (with_reducible first | exact HB.out | apply below_alloc | apply pw_below_drewN | apply below_drew1) | exact HB.out)⟩
         ·
          rw [if_neg c13] at H
          exact absurd H (by simp)
        ·
         rw [if_neg c12] at H
         exact absurd H (by simp)
       ·
        replace c11 := Bool.eq_false_iff.mpr c11
        subst c11
        have H1 : ((syzygyref01_Digits.f kj8 l0).bind fun t408 => (syzygyref03_Div.l0 kj8 l1 t408 (([] : List Int)) 0)) = some (r1, r2, r3) := by rw [if_neg (show ¬ (false = true) by decide)] at H; exact H
        clear H
        have H := H1
        clear H1
        replace H := Option.bind_eq_some_iff.mp H
        obtain ⟨t408, A200, H⟩ := H
        replace H : (syzygyref03_Div.l0 kj8 l1 t408 (([] : List Int)) 0) = some (r1, r2, r3) := H
        have A20 := Aside0.mk A200
        clear A200
        obtain ⟨y411, hy411⟩ : ∃ y_ : List Int, y_ = (([] : List Int)) := ⟨_, rfl⟩
        replace H : (syzygyref03_Div.l0 kj8 l1 t408 y411 0) = some (r1, r2, r3) := by first | (rw [hy411]; with_reducible exact H) | (have H2_ := (Option.bind_some _ _).symm.trans H; rw [hy411]; with_reducible exact H2_) | (have H2_ := (Option.bind_some _ _).symm.trans H; with_reducible exact H2_) | with_reducible exact H | (rw [hy411]; exact H) | exact H
        have Ny411 := Aside0.mk hy411
        clear hy411
        have H' := Aside0.mk H
        clear H
        go_wp2_with (first | ((with_reducible refine gate_callee (f := 70) rfl ?_); refine goesL_ (some 50) rfl rfl Try.func70 (by kernel_rfl) rfl #[.slice A0 l0.length c0] rfl mt_ ?_; (with_reducible refine (syzygyref01_Digits.calls kj8 _ _ l0 t408 _ ?side1 ?side2 A20.out).mono ?_); (case side1 => exact cc_ (Kd.C_below HR0.out HB.out)); (case side2 => exact HC0.out); rintro e w21 ⟨v409, rfl, ho0, hb⟩; refine ⟨_, rfl, ?_⟩; have n0_ := Aside0.mk (Kd.R_lower ho0 (below_size (bb_ HB))); have n1_ := Aside0.mk (below_step (bb_ HB) hb); clear HB; have HO410 := n0_; have HB := n1_; clear n0_ n1_; (try clear hb); (try clear hb2); (try clear hk); (try clear hi); (try clear ho0)) | ((with_reducible refine gate_dst (N := 51) rfl ?_); (try (refine gate_guard (by rfl) ?_; dsimp only)); refine Kd.R_lit (Kd.int .u64) _ 50 ?hg (N := 51) ?hd (xs := ([] : List Int)) (inner := []) (ok := fun _ => True) (okp := fun _ => True) ?hr ?hp (fun _ hk => hk) trivial (Below.refl _ _) (Nat.le_refl _) (by simp) ?_; (case hd => rfl); (case hg => rfl); (case hr => exact gs_); (case hp => exact (Reps.none _ _)); intro v412 w22 ho23 hb hg_ hnew_; clear hg_ hnew_; (first | rw [← Ny411.out] at ho23 | (simp only [Int.reduceToNat] at ho23; rw [← Ny411.out] at ho23)); have n0_ := Aside0.mk (Kd.R_elder' (rR_ HO410) (Kd.R_base ho23) hb); have n1_ := Aside0.mk (Kd.R_lower (Kd.R_new' ho23 (Kd.R_lt (rR_ HO410))) (below_size (bb_ HB))); have n2_ := Aside0.mk (below_step (bb_ HB) hb); clear HO410; clear HB; have HO410 := n0_; have HO413 := n1_; have HB := n2_; clear n0_ n1_ n2_; clear hb ho23))
        go_loopg [8, 9] kj8 (fun kq v8 v9 w' => ∃ (x8_3 : List Int) (x9_3 : Int), v9 = .int .i64 x9_3 ∧ Aside0 (syzygyref03_Div.l0 kq l1 t408 x8_3 x9_3 = some (r1, r2, r3)) ∧ Aside0 (kq ≤ kj8) ∧ Aside0 (Kd.R (Kd.int .u64) 50 w' w.heap.size (fun k_ => some k_ ≠ (v8 : Value).ownBlock) v409 t408) ∧ Aside0 (Kd.R (Kd.int .u64) 50 w' w.heap.size (fun k_ => some k_ ≠ (v409 : Value).ownBlock) v8 x8_3) ∧ Aside0 (Below w.heap.size w w'))
        case atStart => exact ⟨(y411), (0), sd_, H', ⟨Nat.le_refl _⟩, ⟨by (with_reducible repeat (first | apply Kd.R_alloc | apply Kd.R_drewN | apply Kd.R_drew)); exact Kd.R_mono HO410.out (fun _ hk => hk.2)⟩, ⟨by (with_reducible repeat (first | apply Kd.R_alloc | apply Kd.R_drewN | apply Kd.R_drew)); exact Kd.R_mono HO413.out (fun _ hk => hk.2)⟩, ⟨by repeat (first | (with_reducible first | exact HB.out | apply below_alloc | apply pw_below_drewN | apply below_drew1) | exact HB.out)⟩⟩
        case round =>
         clear H'
         try clear c1
         try clear p2
         try clear c3
         try clear p3
         try clear q3
         try clear hx3
         try clear qi3
         try clear c4
         try clear p4
         try clear q4
         try clear hx4
         try clear qi4
         try clear c5
         try clear c6
         try clear c7
         try clear c8
         try clear c8b0
         try clear c8b1
         try clear c8b2
         try clear c10
         try clear c10b0
         try clear c10b1
         try clear c11
         try clear c12
         try clear c12b0
         try clear c12b1
         try clear c13
         try clear c13b0
         try clear c13b1
         try clear c14
         try clear c14b0
         try clear c14b1
         try clear hx398_0
         try clear hx399_0
         try clear hx403_0
         try clear hx404_0
         try clear p2
         try clear p398
         try clear p399
         try clear p403
         try clear p404
         try clear q398
         try clear q399
         try clear q403
         try clear q404
         obtain ⟨x8_3, x9_3, rfl, HA, HK3, HO_7, HO_8, HB⟩ := hrel
         cases gk with
         | zero => exact absurd HA.out (by simp [syzygyref03_Div.l0])
         | succ k3 =>
          have H := HA.out
          clear HA
          simp only [syzygyref03_Div.l0] at H
          by_cases c24 : x9_3 < (t408.length : Int)
          ·
           rw [if_pos c24] at H
           have c24b0 : decide (x9_3 < (t408.length : Int)) = true := decide_eq_true c24
           clear c24
           by_cases c25 : x8_3.length < 17592186044416
           ·
            rw [if_pos c25] at H
            have LMc25 := Aside0.mk c25
            clear c25
            obtain ⟨y414, hy414⟩ : ∃ y_ : List Int, y_ = (x8_3 ++ [0]) := ⟨_, rfl⟩
            replace H : (syzygyref03_Div.l0 k3 l1 t408 y414 (wrap64 (x9_3 + 1))) = some (r1, r2, r3) := by first | (rw [hy414]; with_reducible exact H) | (have H2_ := (Option.bind_some _ _).symm.trans H; rw [hy414]; with_reducible exact H2_) | (have H2_ := (Option.bind_some _ _).symm.trans H; with_reducible exact H2_) | with_reducible exact H | (rw [hy414]; exact H) | exact H
            have Ny414 := Aside0.mk hy414
            clear hy414
            have H' := Aside0.mk H
            clear H
            obtain ⟨Ao26, co26, eo26⟩ := Kd.R_slice HO_7.out
            subst eo26
            go_wp2_with (first | ((with_reducible refine gate_builtin (b := .append) (xs := #[.tmp 58, .tmp 59]) rfl ?_); (try (refine gate_guard (by rfl) ?_; dsimp only)); at_builtin; refine Kd.R_append (Kd.int .u64) (w0 := w) w.heap.size rfl (.tmp 58) (.tmp 59) 48 50 (.int .u64 0) 8 rfl Try.underlying48 info50 rfl (by decide) (by omega) u8 x8_3 0 [.int .u64 0] (fun k_ => some k_ ≠ (.slice Ao26 t408.length co26 : Value).ownBlock) (fun _ => False) rfl rfl ?aP (fun _ hk => hk.elim) ?aF ?aO ?aB ?aS ?aL ?_; (case aP => exact rfl); (case aB => exact (bb_ HB)); (case aF => exact (fun k_ hk => Kd.fresh' (Kd.R_lt (rR_ HO_7)) k_ hk)); (case aO => exact (rR_ HO_8)); (case aS => exact (below_size (bb_ HB))); (case aL => have := LMc25.out; omega); intro v415 w27 ho hb hg hat; rw [← Ny414.out] at ho; have n0_ := Aside0.mk (Kd.R_after (ok := (fun _ => True)) (by (with_reducible repeat (first | apply Kd.R_alloc | apply Kd.R_drewN | apply Kd.R_drew)); exact Kd.R_mono HO_7.out (fun _ hk => ⟨trivial, hk⟩)) hg hat); have n1_ := Aside0.mk (hb); have n2_ := Aside0.mk (ho); clear HO_7; clear HB; clear HO_8; have HO_7 := n0_; have HB := n1_; have HO416 := n2_; clear n0_ n1_ n2_; clear ho hb hg hat))
            go_roundg k3
            case measure => have := HJ2.out; have := HJ8.out; have := HK3.out; omega
            case rel => exact ⟨(y414), (wrap64 (x9_3 + 1)), sd_, H', ⟨by have := HJ2.out; have := HJ8.out; have := HK3.out; omega⟩, ⟨by (with_reducible repeat (first | apply Kd.R_alloc | apply Kd.R_drewN | apply Kd.R_drew)); exact Kd.R_mono HO_7.out (fun _ hk => hk.2)⟩, ⟨by (with_reducible repeat (first | apply Kd.R_alloc | apply Kd.R_drewN | apply Kd.R_drew)); exact HO416.out⟩, ⟨by repeat (first | (with_reducible first | exact HB.out | apply below_alloc | apply pw_below_drewN | apply below_drew1) | exact HB.out)⟩⟩
           ·
            rw [if_neg c25] at H
            exact absurd H (by simp)
          ·
           rw [if_neg c24] at H
           have c24b0 : decide (x9_3 < (t408.length : Int)) = false := decide_eq_false c24
           clear c24
           obtain ⟨y417, hy417⟩ : ∃ y_ : List Int, y_ = (([] : List Int)) := ⟨_, rfl⟩
           replace H : (syzygyref03_Div.l1 k3 l1 t408 x8_3 y417 (wrap64 ((t408.length : Int) - 1))) = some (r1, r2, r3) := by first | (rw [hy417]; with_reducible exact H) | (have H2_ := (Option.bind_some _ _).symm.trans H; rw [hy417]; with_reducible exact H2_) | (have H2_ := (Option.bind_some _ _).symm.trans H; with_reducible exact H2_) | with_reducible exact H | (rw [hy417]; exact H) | exact H
           have Ny417 := Aside0.mk hy417
           clear hy417
           have H' := Aside0.mk H
           clear H
           obtain ⟨Ao28, co28, eo28⟩ := Kd.R_slice HO_7.out
           subst eo28
           go_wp2_with (first | ((with_reducible refine gate_dst (N := 61) rfl ?_); (try (refine gate_guard (by rfl) ?_; dsimp only)); refine Kd.R_lit (Kd.int .u64) _ 50 ?hg (N := 61) ?hd (xs := ([] : List Int)) (inner := []) (ok := fun _ => True) (okp := fun _ => True) ?hr ?hp (fun _ hk => hk) trivial (Below.refl _ _) (Nat.le_refl _) (by simp) ?_; (case hd => rfl); (case hg => rfl); (case hr => exact gs_); (case hp => exact (Reps.none _ _)); intro v418 w29 ho30 hb hg_ hnew_; clear hg_ hnew_; (first | rw [← Ny417.out] at ho30 | (simp only [Int.reduceToNat] at ho30; rw [← Ny417.out] at ho30)); have n0_ := Aside0.mk (Kd.R_elder' (rR_ HO_7) (Kd.R_base ho30) hb); have n1_ := Aside0.mk (Kd.R_elder' (rR_ HO_8) (Kd.R_base ho30) hb); have n2_ := Aside0.mk (Kd.R_lower (Kd.R_new' (Kd.R_new' ho30 (Kd.R_lt (rR_ HO_7))) (Kd.R_lt (rR_ HO_8))) (below_size (bb_ HB))); have n3_ := Aside0.mk (below_step (bb_ HB) hb); clear HO_7; clear HO_8; clear HB; have HO_7 := n0_; have HO_8 := n1_; have HO419 := n2_; have HB := n3_; clear n0_ n1_ n2_ n3_; clear hb ho30))
           go_loopg [10, 11] k3 (fun kq v10 v11 w' => ∃ (x8_4 : List Int) (x10_4 : List Int) (x11_4 : Int), v11 = .int .i64 x11_4 ∧ Aside0 (syzygyref03_Div.l1 kq l1 t408 x8_4 x10_4 x11_4 = some (r1, r2, r3)) ∧ Aside0 (kq ≤ k3) ∧ Aside0 (Kd.R (Kd.int .u64) 50 w' w.heap.size (fun k_ => some k_ ≠ (u8 : Value).ownBlock ∧ some k_ ≠ (v10 : Value).ownBlock) (.slice Ao28 t408.length co28) t408) ∧ Aside0 (Kd.R (Kd.int .u64) 50 w' w.heap.size (fun k_ => some k_ ≠ ((.slice Ao28 t408.length co28) : Value).ownBlock ∧ some k_ ≠ (v10 : Value).ownBlock) u8 x8_4) ∧ Aside0 (Kd.R (Kd.int .u64) 50 w' w.heap.size (fun k_ => some k_ ≠ ((.slice Ao28 t408.length co28) : Value).ownBlock ∧ some k_ ≠ (u8 : Value).ownBlock) v10 x10_4) ∧ Aside0 (Below w.heap.size w w'))
           case atStart => exact ⟨(x8_3), (y417), (wrap64 ((t408.length : Int) - 1)), sd_, H', ⟨Nat.le_refl _⟩, ⟨by (with_reducible repeat (first | apply Kd.R_alloc | apply Kd.R_drewN | apply Kd.R_drew)); exact HO_7.out⟩, ⟨by (with_reducible repeat (first | apply Kd.R_alloc | apply Kd.R_drewN | apply Kd.R_drew)); exact HO_8.out⟩, ⟨by (with_reducible repeat (first | apply Kd.R_alloc | apply Kd.R_drewN | apply Kd.R_drew)); exact Kd.R_mono HO419.out (fun _ hk => ⟨hk.1.2, hk.2⟩)⟩, ⟨by repeat (first | (with_reducible first | exact HB.out | apply below_alloc | apply pw_below_drewN | apply below_drew1) | exact HB.out)⟩⟩
           case round =>
            clear H'
            try clear c1
            try clear c2
            try clear p2
            try clear c3
            try clear p3
            try clear q3
            try clear hx3
            try clear qi3
            try clear c4
            try clear p4
            try clear q4
            try clear hx4
            try clear qi4
            try clear c5
            try clear c6
            try clear p6
            try clear c7
            try clear c8
            try clear c8b0
            try clear c8b1
            try clear c8b2
            try clear c10
            try clear c10b0
            try clear c10b1
            try clear c11
            try clear c12
            try clear c12b0
            try clear c12b1
            try clear c13
            try clear c13b0
            try clear c13b1
            try clear c14
            try clear c14b0
            try clear c14b1
            try clear c24
            try clear c24b0
            try clear c25
            try clear c30
            try clear hx398_0
            try clear hx399_0
            try clear hx403_0
            try clear hx404_0
            try clear p2
            try clear p3
            try clear p398
            try clear p399
            try clear p4
            try clear p403
            try clear p404
            try clear q3
            try clear q398
            try clear q399
            try clear q4
            try clear q403
            try clear q404
            obtain ⟨x8_4, x10_4, x11_4, rfl, HA, HK4, HO_7, HO_8, HO_10, HB⟩ := hrel
            cases gk with
            | zero => exact absurd HA.out (by simp [syzygyref03_Div.l1])
            | succ k4 =>
             have H := HA.out
             clear HA
             simp only [syzygyref03_Div.l1] at H
             by_cases c31 : x11_4 ≥ 0
             ·
              rw [if_pos c31] at H
              have c31b0 : decide (0 ≤ x11_4) = true := decide_eq_true c31
              clear c31
              obtain ⟨y423, hy423⟩ : ∃ y_ : List Int, y_ = (([4294967296] : List Int)) := ⟨_, rfl⟩
              replace H : ((syzygyref01_Mul.f k4 x10_4 y423).bind fun t426 => (if 0 ≤ x11_4 then (if x11_4 < (t408.length : Int) then ((syzygyref01_Add.f k4 t426 (([rd t408 x11_4] : List Int))).bind fun t433 => ((syzygyref01_Cmp.f k4 t433 l1).bind fun t436 => (if t436 ≥ 0 then ((syzygyref03_times.f k4 t433 l1).bind fun t437 => (if x11_4 < (x8_4.length : Int) then ((some (x8_4.set (x11_4 : Int).toNat t437 : List Int)).bind fun y438 => ((syzygyref01_Mul.f k4 l1 (([rd y438 x11_4] : List Int))).bind fun t443 => ((syzygyref01_Sub.f k4 t433 t443).bind fun bt446 => (syzygyref03_Div.l1 k4 l1 t408 y438 bt446.1 (wrap64 (x11_4 - 1)))))) else (none))) else (syzygyref03_Div.l1 k4 l1 t408 x8_4 t433 (wrap64 (x11_4 - 1)))))) else (none)) else (none))) = some (r1, r2, r3) := by first | (rw [hy423]; with_reducible exact H) | (have H2_ := (Option.bind_some _ _).symm.trans H; rw [hy423]; with_reducible exact H2_) | (have H2_ := (Option.bind_some _ _).symm.trans H; with_reducible exact H2_) | with_reducible exact H | (rw [hy423]; exact H) | exact H
              have Ny423 := Aside0.mk hy423
              clear hy423
              replace H := Option.bind_eq_some_iff.mp H
              obtain ⟨t426, A320, H⟩ := H
              replace H : (if 0 ≤ x11_4 then (if x11_4 < (t408.length : Int) then ((syzygyref01_Add.f k4 t426 (([rd t408 x11_4] : List Int))).bind fun t433 => ((syzygyref01_Cmp.f k4 t433 l1).bind fun t436 => (if t436 ≥ 0 then ((syzygyref03_times.f k4 t433 l1).bind fun t437 => (if x11_4 < (x8_4.length : Int) then ((some (x8_4.set (x11_4 : Int).toNat t437 : List Int)).bind fun y438 => ((syzygyref01_Mul.f k4 l1 (([rd y438 x11_4] : List Int))).bind fun t443 => ((syzygyref01_Sub.f k4 t433 t443).bind fun bt446 => (syzygyref03_Div.l1 k4 l1 t408 y438 bt446.1 (wrap64 (x11_4 - 1)))))) else (none))) else (syzygyref03_Div.l1 k4 l1 t408 x8_4 t433 (wrap64 (x11_4 - 1)))))) else (none)) else (none)) = some (r1, r2, r3) := H
              have A32 := Aside0.mk A320
              clear A320
              by_cases c33 : 0 ≤ x11_4
              ·
               rw [if_pos c33] at H
               have c33b0 : decide (0 ≤ x11_4) = true := decide_eq_true c33
               clear c33
               by_cases c34 : x11_4 < (t408.length : Int)
               ·
                rw [if_pos c34] at H
                have c34b0 : decide (x11_4 < (t408.length : Int)) = true := decide_eq_true c34
                clear c34
                obtain ⟨y430, hy430⟩ : ∃ y_ : List Int, y_ = (([rd t408 x11_4] : List Int)) := ⟨_, rfl⟩
                replace H : ((syzygyref01_Add.f k4 t426 y430).bind fun t433 => ((syzygyref01_Cmp.f k4 t433 l1).bind fun t436 => (if t436 ≥ 0 then ((syzygyref03_times.f k4 t433 l1).bind fun t437 => (if x11_4 < (x8_4.length : Int) then ((some (x8_4.set (x11_4 : Int).toNat t437 : List Int)).bind fun y438 => ((syzygyref01_Mul.f k4 l1 (([rd y438 x11_4] : List Int))).bind fun t443 => ((syzygyref01_Sub.f k4 t433 t443).bind fun bt446 => (syzygyref03_Div.l1 k4 l1 t408 y438 bt446.1 (wrap64 (x11_4 - 1)))))) else (none))) else (syzygyref03_Div.l1 k4 l1 t408 x8_4 t433 (wrap64 (x11_4 - 1)))))) = some (r1, r2, r3) := by first | (rw [hy430]; with_reducible exact H) | (have H2_ := (Option.bind_some _ _).symm.trans H; rw [hy430]; with_reducible exact H2_) | (have H2_ := (Option.bind_some _ _).symm.trans H; with_reducible exact H2_) | with_reducible exact H | (rw [hy430]; exact H) | exact H
                have Ny430 := Aside0.mk hy430
                clear hy430
                replace H := Option.bind_eq_some_iff.mp H
                obtain ⟨t433, A350, H⟩ := H
                replace H : ((syzygyref01_Cmp.f k4 t433 l1).bind fun t436 => (if t436 ≥ 0 then ((syzygyref03_times.f k4 t433 l1).bind fun t437 => (if x11_4 < (x8_4.length : Int) then ((some (x8_4.set (x11_4 : Int).toNat t437 : List Int)).bind fun y438 => ((syzygyref01_Mul.f k4 l1 (([rd y438 x11_4] : List Int))).bind fun t443 => ((syzygyref01_Sub.f k4 t433 t443).bind fun bt446 => (syzygyref03_Div.l1 k4 l1 t408 y438 bt446.1 (wrap64 (x11_4 - 1)))))) else (none))) else (syzygyref03_Div.l1 k4 l1 t408 x8_4 t433 (wrap64 (x11_4 - 1))))) = some (r1, r2, r3) := H
                have A35 := Aside0.mk A350
                clear A350
                replace H := Option.bind_eq_some_iff.mp H
                obtain ⟨t436, A360, H⟩ := H
                replace H : (if t436 ≥ 0 then ((syzygyref03_times.f k4 t433 l1).bind fun t437 => (if x11_4 < (x8_4.length : Int) then ((some (x8_4.set (x11_4 : Int).toNat t437 : List Int)).bind fun y438 => ((syzygyref01_Mul.f k4 l1 (([rd y438 x11_4] : List Int))).bind fun t443 => ((syzygyref01_Sub.f k4 t433 t443).bind fun bt446 => (syzygyref03_Div.l1 k4 l1 t408 y438 bt446.1 (wrap64 (x11_4 - 1)))))) else (none))) else (syzygyref03_Div.l1 k4 l1 t408 x8_4 t433 (wrap64 (x11_4 - 1)))) = some (r1, r2, r3) := H
                have A36 := Aside0.mk A360
                clear A360
                by_cases c37 : t436 ≥ 0
                ·
                 rw [if_pos c37] at H
                 have c37b0 : decide (0 ≤ t436) = true := decide_eq_true c37
                 clear c37
                 replace H := Option.bind_eq_some_iff.mp H
                 obtain ⟨t437, A380, H⟩ := H
                 replace H : (if x11_4 < (x8_4.length : Int) then ((some (x8_4.set (x11_4 : Int).toNat t437 : List Int)).bind fun y438 => ((syzygyref01_Mul.f k4 l1 (([rd y438 x11_4] : List Int))).bind fun t443 => ((syzygyref01_Sub.f k4 t433 t443).bind fun bt446 => (syzygyref03_Div.l1 k4 l1 t408 y438 bt446.1 (wrap64 (x11_4 - 1)))))) else (none)) = some (r1, r2, r3) := H
                 have A38 := Aside0.mk A380
                 clear A380
                 by_cases c39 : x11_4 < (x8_4.length : Int)
                 ·
                  rw [if_pos c39] at H
                  have c39b0 : decide (x11_4 < (x8_4.length : Int)) = true := decide_eq_true c39
                  clear c39
                  obtain ⟨y438, hy438⟩ : ∃ y_ : List Int, y_ = (x8_4.set (x11_4 : Int).toNat t437) := ⟨_, rfl⟩
                  replace H : ((syzygyref01_Mul.f k4 l1 (([rd y438 x11_4] : List Int))).bind fun t443 => ((syzygyref01_Sub.f k4 t433 t443).bind fun bt446 => (syzygyref03_Div.l1 k4 l1 t408 y438 bt446.1 (wrap64 (x11_4 - 1))))) = some (r1, r2, r3) := by first | (rw [hy438]; with_reducible exact H) | (have H2_ := (Option.bind_some _ _).symm.trans H; rw [hy438]; with_reducible exact H2_) | (have H2_ := (Option.bind_some _ _).symm.trans H; with_reducible exact H2_) | with_reducible exact H | (rw [hy438]; exact H) | exact H
                  have Ny438 := Aside0.mk hy438
                  clear hy438
                  obtain ⟨y440, hy440⟩ : ∃ y_ : List Int, y_ = (([rd y438 x11_4] : List Int)) := ⟨_, rfl⟩
                  replace H : ((syzygyref01_Mul.f k4 l1 y440).bind fun t443 => ((syzygyref01_Sub.f k4 t433 t443).bind fun bt446 => (syzygyref03_Div.l1 k4 l1 t408 y438 bt446.1 (wrap64 (x11_4 - 1))))) = some (r1, r2, r3) := by first | (rw [hy440]; with_reducible exact H) | (have H2_ := (Option.bind_some _ _).symm.trans H; rw [hy440]; with_reducible exact H2_) | (have H2_ := (Option.bind_some _ _).symm.trans H; with_reducible exact H2_) | with_reducible exact H | (rw [hy440]; exact H) | exact H
                  have Ny440 := Aside0.mk hy440
                  clear hy440
                  replace H := Option.bind_eq_some_iff.mp H
                  obtain ⟨t443, A410, H⟩ := H
                  replace H : ((syzygyref01_Sub.f k4 t433 t443).bind fun bt446 => (syzygyref03_Div.l1 k4 l1 t408 y438 bt446.1 (wrap64 (x11_4 - 1)))) = some (r1, r2, r3) := H
                  have A41 := Aside0.mk A410
                  clear A410
                  replace H := Option.bind_eq_some_iff.mp H
                  obtain ⟨⟨t446, t447⟩, A420, H⟩ := H
                  replace H : (syzygyref03_Div.l1 k4 l1 t408 y438 t446 (wrap64 (x11_4 - 1))) = some (r1, r2, r3) := H
                  have A42 := Aside0.mk A420
                  clear A420
                  have H' := Aside0.mk H
                  clear H
                  obtain ⟨Ao43, co43, eo43⟩ := Kd.R_slice HO_10.out
                  subst eo43
                  try go_wp2
                  have n0_ := Aside0.mk (Kd.R_drew HO_7.out)
                  have n1_ := Aside0.mk (Kd.R_drew HO_8.out)
                  have n2_ := Aside0.mk (Kd.R_drew HO_10.out)
                  have n3_ := Aside0.mk (below_drew1 HB.out)
                  clear HO_7
                  clear HO_8
                  clear HO_10
                  clear HB
                  have HO_7 := n0_
                  have HO_8 := n1_
                  have HO_10 := n2_
                  have HB := n3_
                  clear n0_ n1_ n2_ n3_
                  have p429 : 0 ≤ (x11_4 : Int) := of_decide_eq_true am_
                  have q429 : x11_4 < (t408.length : Int) := of_decide_eq_true am_
                  obtain ⟨ad429, e429, hx429_0⟩ := Kd.at_int (Kd.R_reads' HO_7.out).2.2 x11_4 p429 q429
                  cases e429
                  replace p429 := eq_true p429
                  replace q429 := eq_true q429
                  refine start_ (n := 10) (S := fun w' => w'.cell? (ad429.add (x11_4).toNat) = some (.int .u64 (rd t408 x11_4))) (ds := []) #[false, false, false, false, false, false, false, false, false, false] (by kernel_rfl) rfl rfl (hx429_0) (fun hHeld => ?_); refine with_tabW syzygyref03_Div.tab17 syzygyref03_Div.bits17 (fun HT_ HW_ => ?_)
                  generalize wr.drew = w44 at HO_7 HO_8 HO_10 HB hx429_0 hHeld ⊢
                  refine pure_ (i := 0) (N := some 69) (v := ?_) (a' := ?_) #[true, false, false, false, false, false, false, false, false, false] rfl rfl (any_of HT_.out (by kernel_rfl)) (fun _ _ _ h => h) (Or.inl ⟨by rfl, ?_⟩) ?_ ?_
                  rotate_left
                  ·
                   intro w'
                   go_simp
                   with_reducible rfl
                  rotate_left
                  ·
                   simp only [Act.put, ss_, i64_w, i32_w]
                   rfl
                  refine pure_ (i := 3) (N := some 72) (v := ?_) (a' := ?_) #[true, false, false, true, false, false, false, false, false, false] rfl rfl (any_of HT_.out (by kernel_rfl)) (fun _ _ _ h => h) (Or.inl ⟨by rfl, ?_⟩) ?_ ?_
                  rotate_left
                  ·
                   intro w'
                   go_simp
                   with_reducible rfl
                  rotate_left
                  ·
                   simp only [Act.put, ss_, i64_w, i32_w]
                   rfl
                  refine pure_ (i := 4) (N := some 73) (v := ?_) (a' := ?_) #[true, false, false, true, true, false, false, false, false, false] rfl rfl (any_of HT_.out (by kernel_rfl)) (fun _ _ _ h => h) (Or.inl ⟨by rfl, ?_⟩) ?_ ?_
                  rotate_left
                  ·
                   intro w'
                   go_simp
                   with_reducible rfl
                  rotate_left
                  ·
                   simp only [Act.put, ss_, i64_w, i32_w]
                   rfl
                  refine pure_ (i := 5) (N := some 74) (v := ?_) (a' := ?_) #[true, false, false, true, true, true, false, false, false, false] rfl rfl (any_of HT_.out (by kernel_rfl)) (fun _ _ _ h => h) (Or.inl ⟨by rfl, ?_⟩) ?_ ?_
                  rotate_left
                  ·
                   intro w'
                   go_simp
                   with_reducible rfl
                  rotate_left
                  ·
                   simp only [Act.put, ss_, i64_w, i32_w]
                   rfl
                  refine take_ (i := 6) (N := some 75) (v := ?_) (a' := ?_) #[true, false, false, true, true, true, true, false, false, false] rfl rfl (take_ofW HT_.out HW_.out (by kernel_rfl)) (fun _ _ _ h => h) (Or.inl ⟨by rfl, ?_⟩) hHeld ?_ ?_
                  rotate_left
                  ·
                   intro w' s0
                   go_simp
                   with_reducible rfl
                  rotate_left
                  ·
                   simp only [Act.put, ss_, i64_w, i32_w]
                   rfl
                  refine join_ (σ := Value × Value × Value) 2 #[true, true, true, true, true, true, true, true, false, false] (fun s_ => [(70, s_.1), (71, s_.2.1), (76, s_.2.2)]) (fun s_ w' => (w'.cell? (ad429.add (x11_4).toNat) = some (.int .u64 (rd t408 x11_4))) ∧ (Kd.R (Kd.int .u64) 50 w' w.heap.size (fun k_ => some k_ ≠ (s_.2.1 : Value).ownBlock ∧ some k_ ≠ (s_.2.2 : Value).ownBlock ∧ some k_ ≠ (.slice Ao43 x10_4.length co43 : Value).ownBlock ∧ some k_ ≠ (.slice (some ad429) t408.length co28 : Value).ownBlock ∧ some k_ ≠ (u8 : Value).ownBlock) s_.1 y423) ∧ (Kd.R (Kd.int .u64) 50 w' w.heap.size (fun k_ => some k_ ≠ (s_.1 : Value).ownBlock ∧ some k_ ≠ (s_.2.2 : Value).ownBlock ∧ some k_ ≠ (.slice Ao43 x10_4.length co43 : Value).ownBlock ∧ some k_ ≠ (.slice (some ad429) t408.length co28 : Value).ownBlock ∧ some k_ ≠ (u8 : Value).ownBlock) s_.2.1 t426) ∧ (Kd.R (Kd.int .u64) 50 w' w.heap.size (fun k_ => some k_ ≠ (s_.1 : Value).ownBlock ∧ some k_ ≠ (s_.2.1 : Value).ownBlock ∧ some k_ ≠ (.slice Ao43 x10_4.length co43 : Value).ownBlock ∧ some k_ ≠ (.slice (some ad429) t408.length co28 : Value).ownBlock ∧ some k_ ≠ (u8 : Value).ownBlock) s_.2.2 y430) ∧ (Kd.R (Kd.int .u64) 50 w' w.heap.size (fun k_ => some k_ ≠ (s_.1 : Value).ownBlock ∧ some k_ ≠ (s_.2.1 : Value).ownBlock ∧ some k_ ≠ (s_.2.2 : Value).ownBlock ∧ some k_ ≠ (.slice (some ad429) t408.length co28 : Value).ownBlock ∧ some k_ ≠ (u8 : Value).ownBlock) (.slice Ao43 x10_4.length co43) x10_4) ∧ (Kd.R (Kd.int .u64) 50 w' w.heap.size (fun k_ => some k_ ≠ (s_.1 : Value).ownBlock ∧ some k_ ≠ (s_.2.1 : Value).ownBlock ∧ some k_ ≠ (s_.2.2 : Value).ownBlock ∧ some k_ ≠ (.slice Ao43 x10_4.length co43 : Value).ownBlock ∧ some k_ ≠ (u8 : Value).ownBlock) (.slice (some ad429) t408.length co28) t408) ∧ (Kd.R (Kd.int .u64) 50 w' w.heap.size (fun k_ => some k_ ≠ (s_.1 : Value).ownBlock ∧ some k_ ≠ (s_.2.1 : Value).ownBlock ∧ some k_ ≠ (s_.2.2 : Value).ownBlock ∧ some k_ ≠ (.slice Ao43 x10_4.length co43 : Value).ownBlock ∧ some k_ ≠ (.slice (some ad429) t408.length co28 : Value).ownBlock) u8 x8_4) ∧ (Below w.heap.size w w')) ?_ ?_
                  rotate_left
                  ·
                   intro hCont
                   refine two_ (i := 1) (j := 7) (Ni := some 70) (Nj := some 76) #[true, true, false, true, true, true, true, false, false, false] #[true, false, false, true, true, true, true, true, false, false] rfl rfl rfl rfl (two_of HT_.out (by kernel_rfl)) (by decide) (by decide) (fun K hK => ?_) (fun K hK => ?_)
                   ·
                    skip
                    refine Kd.R_lit_step (Kd.int .u64) _ 50 ?hg (N := 70) ?hd (xs := ([4294967296] : List Int)) (inner := [.int .u64 4294967296]) (ok := fun _ => True) (okp := fun _ => True) ?hr ?hp (fun _ hk => hk) trivial (Below.refl _ _) (Nat.le_refl _) (by simp) ?_; (case hd => rfl); (case hg => rfl); (case hr => exact gs_); (case hp => exact (Reps.one (show Kd.M (Kd.int .u64) _ _ _ 4294967296 [.int .u64 4294967296] from rfl) (Reps.none _ _)))
                    intro v424 w45 ho46 hb hg_ hnew_
                    have HS0_ := (hb.cell (World.block_lt_of_cell? _ _ (hHeld))).trans (hHeld)
                    clear hg_ hnew_
                    (first | rw [← Ny423.out] at ho46 | (simp only [Int.reduceToNat] at ho46; rw [← Ny423.out] at ho46))
                    have n0_ := Aside0.mk (Kd.R_elder' (rR_ HO_7) (Kd.R_base ho46) hb)
                    have n1_ := Aside0.mk (Kd.R_elder' (rR_ HO_8) (Kd.R_base ho46) hb)
                    have n2_ := Aside0.mk (Kd.R_elder' (rR_ HO_10) (Kd.R_base ho46) hb)
                    have n3_ := Aside0.mk (Kd.R_lower (Kd.R_new' (Kd.R_new' (Kd.R_new' ho46 (Kd.R_lt (rR_ HO_7))) (Kd.R_lt (rR_ HO_8))) (Kd.R_lt (rR_ HO_10))) (below_size (bb_ HB)))
                    have n4_ := Aside0.mk (below_step (bb_ HB) hb)
                    clear HO_7
                    clear HO_8
                    clear HO_10
                    clear HB
                    have HO_7 := n0_
                    have HO_8 := n1_
                    have HO_10 := n2_
                    have HO425 := n3_
                    have HB := n4_
                    clear n0_ n1_ n2_ n3_ n4_
                    clear hb ho46
                    obtain ⟨Ao47, co47, eo47⟩ := Kd.R_slice HO425.out
                    (first | subst eo47 | (injection eo47 with f1_ f2_ f3_; have f4_ := f1_.symm; have f5_ := f3_.symm; clear f1_ f2_ f3_; subst f4_; subst f5_))
                    refine hK.out _ _ (HS0_) (fun hHeld => ?_)
                    clear hK K
                    refine norm_ (a' := ?_) ?_ ?_
                    rotate_left
                    ·
                     show Act.put _ (some 70) _ = _
                     simp only [Act.put, ss_, i64_w, i32_w]
                     rfl
                    refine two_ (i := 2) (j := 7) (Ni := some 71) (Nj := some 76) #[true, true, true, true, true, true, true, false, false, false] #[true, true, false, true, true, true, true, true, false, false] rfl rfl rfl rfl (two_of HT_.out (by kernel_rfl)) (by decide) (by decide) (fun K hK => ?_) (fun K hK => ?_)
                    ·
                     skip
                     refine goes_ Try.func37 (by kernel_rfl) rfl #[.slice Ao43 x10_4.length co43, .slice Ao47 y423.length co47] (by rfl) rfl rfl mt_ ?_
                     with_reducible refine (syzygyref01_Mul.calls k4 _ _ x10_4 _ _ y423 t426 _ ?side1 ?side2 ?side3 ?side4 A32.out).mono ?_
                     (case side1 => exact cc_ (Kd.R_reads' HO_10.out).2.2)
                     (case side2 => exact (Kd.R_reads' HO_10.out).2.1)
                     (case side3 => exact cc_ (Kd.R_reads' HO425.out).2.2)
                     (case side4 => exact (Kd.R_reads' HO425.out).2.1)
                     rintro e w48 ⟨v427, rfl, ho0, hb⟩
                     have HS0_ := (hb.cell (World.block_lt_of_cell? _ _ (hHeld))).trans (hHeld)
                     refine ⟨_, rfl, ?_⟩
                     have n0_ := Aside0.mk (Kd.R_elder' (rR_ HO_7) (Kd.R_base ho0) hb)
                     have n1_ := Aside0.mk (Kd.R_elder' (rR_ HO_8) (Kd.R_base ho0) hb)
                     have n2_ := Aside0.mk (Kd.R_elder' (rR_ HO_10) (Kd.R_base ho0) hb)
                     have n3_ := Aside0.mk (Kd.R_elder' (rR_ HO425) (Kd.R_base ho0) hb)
                     have n4_ := Aside0.mk (Kd.R_lower (Kd.R_new' (Kd.R_new' (Kd.R_new' (Kd.R_new' ho0 (Kd.R_lt (rR_ HO_7))) (Kd.R_lt (rR_ HO_8))) (Kd.R_lt (rR_ HO_10))) (Kd.R_lt (rR_ HO425))) (below_size (bb_ HB)))
                     have n5_ := Aside0.mk (below_step (bb_ HB) hb)
                     clear HO_7
                     clear HO_8
                     clear HO_10
                     clear HO425
                     clear HB
                     have HO_7 := n0_
                     have HO_8 := n1_
                     have HO_10 := n2_
                     have HO425 := n3_
                     have HO428 := n4_
                     have HB := n5_
                     clear n0_ n1_ n2_ n3_ n4_ n5_
                     (try clear hb)
                     (try clear hb2)
                     (try clear hk)
                     (try clear hi)
                     (try clear ho0)
                     refine hK.out _ _ (HS0_) (fun hHeld => ?_)
                     clear hK K
                     refine norm_ (a' := ?_) ?_ ?_
                     rotate_left
                     ·
                      show Act.put _ (some 71) _ = _
                      simp only [Act.put, ss_, i64_w, i32_w]
                      rfl
                     refine one_ (i := 7) (N := some 76) #[true, true, true, true, true, true, true, true, false, false] rfl rfl (one_of HT_.out (by kernel_rfl)) (by decide) (fun K hK => ?_)
                     refine Kd.R_lit_step (Kd.int .u64) _ 50 ?hg (N := 76) ?hd (xs := ([rd t408 x11_4] : List Int)) (inner := [.int .u64 (rd t408 x11_4)]) (ok := fun _ => True) (okp := fun _ => True) ?hr ?hp (fun _ hk => hk) trivial (Below.refl _ _) (Nat.le_refl _) (by simp) ?_; (case hd => rfl); (case hg => rfl); (case hr => exact gs_); (case hp => exact (Reps.one (show Kd.M (Kd.int .u64) _ _ _ (rd t408 x11_4) [.int .u64 (rd t408 x11_4)] from rfl) (Reps.none _ _)))
                     intro v431 w49 ho50 hb hg_ hnew_
                     have HS0_ := (hb.cell (World.block_lt_of_cell? _ _ (hHeld))).trans (hHeld)
                     clear hg_ hnew_
                     (first | rw [← Ny430.out] at ho50 | (simp only [Int.reduceToNat] at ho50; rw [← Ny430.out] at ho50))
                     have n0_ := Aside0.mk (Kd.R_elder' (rR_ HO_7) (Kd.R_base ho50) hb)
                     have n1_ := Aside0.mk (Kd.R_elder' (rR_ HO_8) (Kd.R_base ho50) hb)
                     have n2_ := Aside0.mk (Kd.R_elder' (rR_ HO_10) (Kd.R_base ho50) hb)
                     have n3_ := Aside0.mk (Kd.R_elder' (rR_ HO425) (Kd.R_base ho50) hb)
                     have n4_ := Aside0.mk (Kd.R_elder' (rR_ HO428) (Kd.R_base ho50) hb)
                     have n5_ := Aside0.mk (Kd.R_lower (Kd.R_new' (Kd.R_new' (Kd.R_new' (Kd.R_new' (Kd.R_new' ho50 (Kd.R_lt (rR_ HO_7))) (Kd.R_lt (rR_ HO_8))) (Kd.R_lt (rR_ HO_10))) (Kd.R_lt (rR_ HO425))) (Kd.R_lt (rR_ HO428))) (below_size (bb_ HB)))
                     have n6_ := Aside0.mk (below_step (bb_ HB) hb)
                     clear HO_7
                     clear HO_8
                     clear HO_10
                     clear HO425
                     clear HO428
                     clear HB
                     have HO_7 := n0_
                     have HO_8 := n1_
                     have HO_10 := n2_
                     have HO425 := n3_
                     have HO428 := n4_
                     have HO432 := n5_
                     have HB := n6_
                     clear n0_ n1_ n2_ n3_ n4_ n5_ n6_
                     clear hb ho50
                     refine hK.out _ _ (HS0_) (fun hHeld => ?_)
                     clear hK K
                     refine norm_ (a' := ?_) ?_ ?_
                     rotate_left
                     ·
                      show Act.put _ (some 76) _ = _
                      simp only [Act.put, ss_, i64_w, i32_w]
                      rfl
                     exact norm_ (by simp only [putAll, Act.put, ss_]) (hCont (.slice Ao47 y423.length co47, v427, v431) _ ⟨hHeld, (by (with_reducible repeat (first | apply Kd.R_alloc | apply Kd.R_drewN | apply Kd.R_drew)); exact Kd.R_mono HO425.out (fun _ hk => ⟨hk.1.2, ⟨hk.2, ⟨hk.1.1.2, ⟨hk.1.1.1.1.2, hk.1.1.1.2⟩⟩⟩⟩)), (by (with_reducible repeat (first | apply Kd.R_alloc | apply Kd.R_drewN | apply Kd.R_drew)); exact Kd.R_mono HO428.out (fun _ hk => ⟨hk.1.2, ⟨hk.2, ⟨hk.1.1.2, ⟨hk.1.1.1.1.2, hk.1.1.1.2⟩⟩⟩⟩)), (by (with_reducible repeat (first | apply Kd.R_alloc | apply Kd.R_drewN | apply Kd.R_drew)); exact Kd.R_mono HO432.out (fun _ hk => ⟨hk.1.2, ⟨hk.2, ⟨hk.1.1.2, ⟨hk.1.1.1.1.2, hk.1.1.1.2⟩⟩⟩⟩)), (by (with_reducible repeat (first | apply Kd.R_alloc | apply Kd.R_drewN | apply Kd.R_drew)); exact Kd.R_mono HO_10.out (fun _ hk => ⟨hk.1.1.2, ⟨hk.1.2, ⟨hk.2, ⟨hk.1.1.1.1, hk.1.1.1.2⟩⟩⟩⟩)), (by (with_reducible repeat (first | apply Kd.R_alloc | apply Kd.R_drewN | apply Kd.R_drew)); exact Kd.R_mono HO_7.out (fun _ hk => ⟨hk.1.1.2, ⟨hk.1.2, ⟨hk.2, ⟨hk.1.1.1.2, hk.1.1.1.1⟩⟩⟩⟩)), (by (with_reducible repeat (first | apply Kd.R_alloc | apply Kd.R_drewN | apply Kd.R_drew)); exact Kd.R_mono HO_8.out (fun _ hk => ⟨hk.1.1.2, ⟨hk.1.2, ⟨hk.2, ⟨hk.1.1.1.2, hk.1.1.1.1⟩⟩⟩⟩)), (bb_ HB)⟩)
                    ·
                     skip
                     refine Kd.R_lit_step (Kd.int .u64) _ 50 ?hg (N := 76) ?hd (xs := ([rd t408 x11_4] : List Int)) (inner := [.int .u64 (rd t408 x11_4)]) (ok := fun _ => True) (okp := fun _ => True) ?hr ?hp (fun _ hk => hk) trivial (Below.refl _ _) (Nat.le_refl _) (by simp) ?_; (case hd => rfl); (case hg => rfl); (case hr => exact gs_); (case hp => exact (Reps.one (show Kd.M (Kd.int .u64) _ _ _ (rd t408 x11_4) [.int .u64 (rd t408 x11_4)] from rfl) (Reps.none _ _)))
                     intro v431 w47 ho48 hb hg_ hnew_
                     have HS0_ := (hb.cell (World.block_lt_of_cell? _ _ (hHeld))).trans (hHeld)
                     clear hg_ hnew_
                     (first | rw [← Ny430.out] at ho48 | (simp only [Int.reduceToNat] at ho48; rw [← Ny430.out] at ho48))
                     have n0_ := Aside0.mk (Kd.R_elder' (rR_ HO_7) (Kd.R_base ho48) hb)
                     have n1_ := Aside0.mk (Kd.R_elder' (rR_ HO_8) (Kd.R_base ho48) hb)
                     have n2_ := Aside0.mk (Kd.R_elder' (rR_ HO_10) (Kd.R_base ho48) hb)
                     have n3_ := Aside0.mk (Kd.R_elder' (rR_ HO425) (Kd.R_base ho48) hb)
                     have n4_ := Aside0.mk (Kd.R_lower (Kd.R_new' (Kd.R_new' (Kd.R_new' (Kd.R_new' ho48 (Kd.R_lt (rR_ HO_7))) (Kd.R_lt (rR_ HO_8))) (Kd.R_lt (rR_ HO_10))) (Kd.R_lt (rR_ HO425))) (below_size (bb_ HB)))
                     have n5_ := Aside0.mk (below_step (bb_ HB) hb)
                     clear HO_7
                     clear HO_8
                     clear HO_10
                     clear HO425
                     clear HB
                     have HO_7 := n0_
                     have HO_8 := n1_
                     have HO_10 := n2_
                     have HO425 := n3_
                     have HO432 := n4_
                     have HB := n5_
                     clear n0_ n1_ n2_ n3_ n4_ n5_
                     clear hb ho48
                     obtain ⟨Ao49, co49, eo49⟩ := Kd.R_slice HO425.out
                     (first | subst eo49 | (injection eo49 with f1_ f2_ f3_; have f4_ := f1_.symm; have f5_ := f3_.symm; clear f1_ f2_ f3_; subst f4_; subst f5_))
                     refine hK.out _ _ (HS0_) (fun hHeld => ?_)
                     clear hK K
                     refine norm_ (a' := ?_) ?_ ?_
                     rotate_left
                     ·
                      show Act.put _ (some 76) _ = _
                      simp only [Act.put, ss_, i64_w, i32_w]
                      rfl
                     refine one_ (i := 2) (N := some 71) #[true, true, true, true, true, true, true, true, false, false] rfl rfl (one_of HT_.out (by kernel_rfl)) (by decide) (fun K hK => ?_)
                     refine goes_ Try.func37 (by kernel_rfl) rfl #[.slice Ao43 x10_4.length co43, .slice Ao49 y423.length co49] (by rfl) rfl rfl mt_ ?_
                     with_reducible refine (syzygyref01_Mul.calls k4 _ _ x10_4 _ _ y423 t426 _ ?side1 ?side2 ?side3 ?side4 A32.out).mono ?_
                     (case side1 => exact cc_ (Kd.R_reads' HO_10.out).2.2)
                     (case side2 => exact (Kd.R_reads' HO_10.out).2.1)
                     (case side3 => exact cc_ (Kd.R_reads' HO425.out).2.2)
                     (case side4 => exact (Kd.R_reads' HO425.out).2.1)
                     rintro e w50 ⟨v427, rfl, ho0, hb⟩
                     have HS0_ := (hb.cell (World.block_lt_of_cell? _ _ (hHeld))).trans (hHeld)
                     refine ⟨_, rfl, ?_⟩
                     have n0_ := Aside0.mk (Kd.R_elder' (rR_ HO_7) (Kd.R_base ho0) hb)
                     have n1_ := Aside0.mk (Kd.R_elder' (rR_ HO_8) (Kd.R_base ho0) hb)
                     have n2_ := Aside0.mk (Kd.R_elder' (rR_ HO_10) (Kd.R_base ho0) hb)
                     have n3_ := Aside0.mk (Kd.R_elder' (rR_ HO425) (Kd.R_base ho0) hb)
                     have n4_ := Aside0.mk (Kd.R_elder' (rR_ HO432) (Kd.R_base ho0) hb)
                     have n5_ := Aside0.mk (Kd.R_lower (Kd.R_new' (Kd.R_new' (Kd.R_new' (Kd.R_new' (Kd.R_new' ho0 (Kd.R_lt (rR_ HO_7))) (Kd.R_lt (rR_ HO_8))) (Kd.R_lt (rR_ HO_10))) (Kd.R_lt (rR_ HO425))) (Kd.R_lt (rR_ HO432))) (below_size (bb_ HB)))
                     have n6_ := Aside0.mk (below_step (bb_ HB) hb)
                     clear HO_7
                     clear HO_8
                     clear HO_10
                     clear HO425
                     clear HO432
                     clear HB
                     have HO_7 := n0_
                     have HO_8 := n1_
                     have HO_10 := n2_
                     have HO425 := n3_
                     have HO432 := n4_
                     have HO428 := n5_
                     have HB := n6_
                     clear n0_ n1_ n2_ n3_ n4_ n5_ n6_
                     (try clear hb)
                     (try clear hb2)
                     (try clear hk)
                     (try clear hi)
                     (try clear ho0)
                     refine hK.out _ _ (HS0_) (fun hHeld => ?_)
                     clear hK K
                     refine norm_ (a' := ?_) ?_ ?_
                     rotate_left
                     ·
                      show Act.put _ (some 71) _ = _
                      simp only [Act.put, ss_, i64_w, i32_w]
                      rfl
                     exact norm_ (by simp only [putAll, Act.put, ss_]) (hCont (.slice Ao49 y423.length co49, v427, v431) _ ⟨hHeld, (by (with_reducible repeat (first | apply Kd.R_alloc | apply Kd.R_drewN | apply Kd.R_drew)); exact Kd.R_mono HO425.out (fun _ hk => ⟨hk.2, ⟨hk.1.2, ⟨hk.1.1.2, ⟨hk.1.1.1.1.2, hk.1.1.1.2⟩⟩⟩⟩)), (by (with_reducible repeat (first | apply Kd.R_alloc | apply Kd.R_drewN | apply Kd.R_drew)); exact Kd.R_mono HO428.out (fun _ hk => ⟨hk.1.2, ⟨hk.2, ⟨hk.1.1.2, ⟨hk.1.1.1.1.2, hk.1.1.1.2⟩⟩⟩⟩)), (by (with_reducible repeat (first | apply Kd.R_alloc | apply Kd.R_drewN | apply Kd.R_drew)); exact Kd.R_mono HO432.out (fun _ hk => ⟨hk.1.2, ⟨hk.2, ⟨hk.1.1.2, ⟨hk.1.1.1.1.2, hk.1.1.1.2⟩⟩⟩⟩)), (by (with_reducible repeat (first | apply Kd.R_alloc | apply Kd.R_drewN | apply Kd.R_drew)); exact Kd.R_mono HO_10.out (fun _ hk => ⟨hk.1.1.2, ⟨hk.2, ⟨hk.1.2, ⟨hk.1.1.1.1, hk.1.1.1.2⟩⟩⟩⟩)), (by (with_reducible repeat (first | apply Kd.R_alloc | apply Kd.R_drewN | apply Kd.R_drew)); exact Kd.R_mono HO_7.out (fun _ hk => ⟨hk.1.1.2, ⟨hk.2, ⟨hk.1.2, ⟨hk.1.1.1.2, hk.1.1.1.1⟩⟩⟩⟩)), (by (with_reducible repeat (first | apply Kd.R_alloc | apply Kd.R_drewN | apply Kd.R_drew)); exact Kd.R_mono HO_8.out (fun _ hk => ⟨hk.1.1.2, ⟨hk.2, ⟨hk.1.2, ⟨hk.1.1.1.2, hk.1.1.1.1⟩⟩⟩⟩)), (bb_ HB)⟩)
                   ·
                    skip
                    refine Kd.R_lit_step (Kd.int .u64) _ 50 ?hg (N := 76) ?hd (xs := ([rd t408 x11_4] : List Int)) (inner := [.int .u64 (rd t408 x11_4)]) (ok := fun _ => True) (okp := fun _ => True) ?hr ?hp (fun _ hk => hk) trivial (Below.refl _ _) (Nat.le_refl _) (by simp) ?_; (case hd => rfl); (case hg => rfl); (case hr => exact gs_); (case hp => exact (Reps.one (show Kd.M (Kd.int .u64) _ _ _ (rd t408 x11_4) [.int .u64 (rd t408 x11_4)] from rfl) (Reps.none _ _)))
                    intro v431 w45 ho46 hb hg_ hnew_
                    have HS0_ := (hb.cell (World.block_lt_of_cell? _ _ (hHeld))).trans (hHeld)
                    clear hg_ hnew_
                    (first | rw [← Ny430.out] at ho46 | (simp only [Int.reduceToNat] at ho46; rw [← Ny430.out] at ho46))
                    have n0_ := Aside0.mk (Kd.R_elder' (rR_ HO_7) (Kd.R_base ho46) hb)
                    have n1_ := Aside0.mk (Kd.R_elder' (rR_ HO_8) (Kd.R_base ho46) hb)
                    have n2_ := Aside0.mk (Kd.R_elder' (rR_ HO_10) (Kd.R_base ho46) hb)
                    have n3_ := Aside0.mk (Kd.R_lower (Kd.R_new' (Kd.R_new' (Kd.R_new' ho46 (Kd.R_lt (rR_ HO_7))) (Kd.R_lt (rR_ HO_8))) (Kd.R_lt (rR_ HO_10))) (below_size (bb_ HB)))
                    have n4_ := Aside0.mk (below_step (bb_ HB) hb)
                    clear HO_7
                    clear HO_8
                    clear HO_10
                    clear HB
                    have HO_7 := n0_
                    have HO_8 := n1_
                    have HO_10 := n2_
                    have HO432 := n3_
                    have HB := n4_
                    clear n0_ n1_ n2_ n3_ n4_
                    clear hb ho46
                    refine hK.out _ _ (HS0_) (fun hHeld => ?_)
                    clear hK K
                    refine norm_ (a' := ?_) ?_ ?_
                    rotate_left
                    ·
                     show Act.put _ (some 76) _ = _
                     simp only [Act.put, ss_, i64_w, i32_w]
                     rfl
                    refine one_ (i := 1) (N := some 70) #[true, true, false, true, true, true, true, true, false, false] rfl rfl (one_of HT_.out (by kernel_rfl)) (by decide) (fun K hK => ?_)
                    refine Kd.R_lit_step (Kd.int .u64) _ 50 ?hg (N := 70) ?hd (xs := ([4294967296] : List Int)) (inner := [.int .u64 4294967296]) (ok := fun _ => True) (okp := fun _ => True) ?hr ?hp (fun _ hk => hk) trivial (Below.refl _ _) (Nat.le_refl _) (by simp) ?_; (case hd => rfl); (case hg => rfl); (case hr => exact gs_); (case hp => exact (Reps.one (show Kd.M (Kd.int .u64) _ _ _ 4294967296 [.int .u64 4294967296] from rfl) (Reps.none _ _)))
                    intro v424 w47 ho48 hb hg_ hnew_
                    have HS0_ := (hb.cell (World.block_lt_of_cell? _ _ (hHeld))).trans (hHeld)
                    clear hg_ hnew_
                    (first | rw [← Ny423.out] at ho48 | (simp only [Int.reduceToNat] at ho48; rw [← Ny423.out] at ho48))
                    have n0_ := Aside0.mk (Kd.R_elder' (rR_ HO_7) (Kd.R_base ho48) hb)
                    have n1_ := Aside0.mk (Kd.R_elder' (rR_ HO_8) (Kd.R_base ho48) hb)
                    have n2_ := Aside0.mk (Kd.R_elder' (rR_ HO_10) (Kd.R_base ho48) hb)
                    have n3_ := Aside0.mk (Kd.R_elder' (rR_ HO432) (Kd.R_base ho48) hb)
                    have n4_ := Aside0.mk (Kd.R_lower (Kd.R_new' (Kd.R_new' (Kd.R_new' (Kd.R_new' ho48 (Kd.R_lt (rR_ HO_7))) (Kd.R_lt (rR_ HO_8))) (Kd.R_lt (rR_ HO_10))) (Kd.R_lt (rR_ HO432))) (below_size (bb_ HB)))
                    have n5_ := Aside0.mk (below_step (bb_ HB) hb)
                    clear HO_7
                    clear HO_8
                    clear HO_10
                    clear HO432
                    clear HB
                    have HO_7 := n0_
                    have HO_8 := n1_
                    have HO_10 := n2_
                    have HO432 := n3_
                    have HO425 := n4_
                    have HB := n5_
                    clear n0_ n1_ n2_ n3_ n4_ n5_
                    clear hb ho48
                    obtain ⟨Ao49, co49, eo49⟩ := Kd.R_slice HO425.out
                    (first | subst eo49 | (injection eo49 with f1_ f2_ f3_; have f4_ := f1_.symm; have f5_ := f3_.symm; clear f1_ f2_ f3_; subst f4_; subst f5_))
                    refine hK.out _ _ (HS0_) (fun hHeld => ?_)
                    clear hK K
                    refine norm_ (a' := ?_) ?_ ?_
                    rotate_left
                    ·
                     show Act.put _ (some 70) _ = _
                     simp only [Act.put, ss_, i64_w, i32_w]
                     rfl
                    refine one_ (i := 2) (N := some 71) #[true, true, true, true, true, true, true, true, false, false] rfl rfl (one_of HT_.out (by kernel_rfl)) (by decide) (fun K hK => ?_)
                    refine goes_ Try.func37 (by kernel_rfl) rfl #[.slice Ao43 x10_4.length co43, .slice Ao49 y423.length co49] (by rfl) rfl rfl mt_ ?_
                    with_reducible refine (syzygyref01_Mul.calls k4 _ _ x10_4 _ _ y423 t426 _ ?side1 ?side2 ?side3 ?side4 A32.out).mono ?_
                    (case side1 => exact cc_ (Kd.R_reads' HO_10.out).2.2)
                    (case side2 => exact (Kd.R_reads' HO_10.out).2.1)
                    (case side3 => exact cc_ (Kd.R_reads' HO425.out).2.2)
                    (case side4 => exact (Kd.R_reads' HO425.out).2.1)
                    rintro e w50 ⟨v427, rfl, ho0, hb⟩
                    have HS0_ := (hb.cell (World.block_lt_of_cell? _ _ (hHeld))).trans (hHeld)
                    refine ⟨_, rfl, ?_⟩
                    have n0_ := Aside0.mk (Kd.R_elder' (rR_ HO_7) (Kd.R_base ho0) hb)
                    have n1_ := Aside0.mk (Kd.R_elder' (rR_ HO_8) (Kd.R_base ho0) hb)
                    have n2_ := Aside0.mk (Kd.R_elder' (rR_ HO_10) (Kd.R_base ho0) hb)
                    have n3_ := Aside0.mk (Kd.R_elder' (rR_ HO432) (Kd.R_base ho0) hb)
                    have n4_ := Aside0.mk (Kd.R_elder' (rR_ HO425) (Kd.R_base ho0) hb)
                    have n5_ := Aside0.mk (Kd.R_lower (Kd.R_new' (Kd.R_new' (Kd.R_new' (Kd.R_new' (Kd.R_new' ho0 (Kd.R_lt (rR_ HO_7))) (Kd.R_lt (rR_ HO_8))) (Kd.R_lt (rR_ HO_10))) (Kd.R_lt (rR_ HO432))) (Kd.R_lt (rR_ HO425))) (below_size (bb_ HB)))
                    have n6_ := Aside0.mk (below_step (bb_ HB) hb)
                    clear HO_7
                    clear HO_8
                    clear HO_10
                    clear HO432
                    clear HO425
                    clear HB
                    have HO_7 := n0_
                    have HO_8 := n1_
                    have HO_10 := n2_
                    have HO432 := n3_
                    have HO425 := n4_
                    have HO428 := n5_
                    have HB := n6_
                    clear n0_ n1_ n2_ n3_ n4_ n5_ n6_
                    (try clear hb)
                    (try clear hb2)
                    (try clear hk)
                    (try clear hi)
                    (try clear ho0)
                    refine hK.out _ _ (HS0_) (fun hHeld => ?_)
                    clear hK K
                    refine norm_ (a' := ?_) ?_ ?_
                    rotate_left
                    ·
                     show Act.put _ (some 71) _ = _
                     simp only [Act.put, ss_, i64_w, i32_w]
                     rfl
                    exact norm_ (by simp only [putAll, Act.put, ss_]) (hCont (.slice Ao49 y423.length co49, v427, v431) _ ⟨hHeld, (by (with_reducible repeat (first | apply Kd.R_alloc | apply Kd.R_drewN | apply Kd.R_drew)); exact Kd.R_mono HO425.out (fun _ hk => ⟨hk.2, ⟨hk.1.2, ⟨hk.1.1.2, ⟨hk.1.1.1.1.2, hk.1.1.1.2⟩⟩⟩⟩)), (by (with_reducible repeat (first | apply Kd.R_alloc | apply Kd.R_drewN | apply Kd.R_drew)); exact Kd.R_mono HO428.out (fun _ hk => ⟨hk.2, ⟨hk.1.2, ⟨hk.1.1.2, ⟨hk.1.1.1.1.2, hk.1.1.1.2⟩⟩⟩⟩)), (by (with_reducible repeat (first | apply Kd.R_alloc | apply Kd.R_drewN | apply Kd.R_drew)); exact Kd.R_mono HO432.out (fun _ hk => ⟨hk.1.2, ⟨hk.2, ⟨hk.1.1.2, ⟨hk.1.1.1.1.2, hk.1.1.1.2⟩⟩⟩⟩)), (by (with_reducible repeat (first | apply Kd.R_alloc | apply Kd.R_drewN | apply Kd.R_drew)); exact Kd.R_mono HO_10.out (fun _ hk => ⟨hk.1.2, ⟨hk.2, ⟨hk.1.1.2, ⟨hk.1.1.1.1, hk.1.1.1.2⟩⟩⟩⟩)), (by (with_reducible repeat (first | apply Kd.R_alloc | apply Kd.R_drewN | apply Kd.R_drew)); exact Kd.R_mono HO_7.out (fun _ hk => ⟨hk.1.2, ⟨hk.2, ⟨hk.1.1.2, ⟨hk.1.1.1.2, hk.1.1.1.1⟩⟩⟩⟩)), (by (with_reducible repeat (first | apply Kd.R_alloc | apply Kd.R_drewN | apply Kd.R_drew)); exact Kd.R_mono HO_8.out (fun _ hk => ⟨hk.1.2, ⟨hk.2, ⟨hk.1.1.2, ⟨hk.1.1.1.2, hk.1.1.1.1⟩⟩⟩⟩)), (bb_ HB)⟩)
                  rintro ⟨v424, v427, v431⟩ w51 ⟨hS_, h0_, h1_, h2_, h3_, h4_, h5_, h6_⟩
                  have n0_ : Aside0 (Kd.R (Kd.int .u64) 50 w51 w.heap.size (fun k_ => some k_ ≠ (v427 : Value).ownBlock ∧ some k_ ≠ (v431 : Value).ownBlock ∧ some k_ ≠ (.slice Ao43 x10_4.length co43 : Value).ownBlock ∧ some k_ ≠ (.slice (some ad429) t408.length co28 : Value).ownBlock ∧ some k_ ≠ (u8 : Value).ownBlock) v424 y423) := ⟨h0_⟩
                  have n1_ : Aside0 (Kd.R (Kd.int .u64) 50 w51 w.heap.size (fun k_ => some k_ ≠ (v424 : Value).ownBlock ∧ some k_ ≠ (v431 : Value).ownBlock ∧ some k_ ≠ (.slice Ao43 x10_4.length co43 : Value).ownBlock ∧ some k_ ≠ (.slice (some ad429) t408.length co28 : Value).ownBlock ∧ some k_ ≠ (u8 : Value).ownBlock) v427 t426) := ⟨h1_⟩
                  have n2_ : Aside0 (Kd.R (Kd.int .u64) 50 w51 w.heap.size (fun k_ => some k_ ≠ (v424 : Value).ownBlock ∧ some k_ ≠ (v427 : Value).ownBlock ∧ some k_ ≠ (.slice Ao43 x10_4.length co43 : Value).ownBlock ∧ some k_ ≠ (.slice (some ad429) t408.length co28 : Value).ownBlock ∧ some k_ ≠ (u8 : Value).ownBlock) v431 y430) := ⟨h2_⟩
                  have n3_ : Aside0 (Kd.R (Kd.int .u64) 50 w51 w.heap.size (fun k_ => some k_ ≠ (v424 : Value).ownBlock ∧ some k_ ≠ (v427 : Value).ownBlock ∧ some k_ ≠ (v431 : Value).ownBlock ∧ some k_ ≠ (.slice (some ad429) t408.length co28 : Value).ownBlock ∧ some k_ ≠ (u8 : Value).ownBlock) (.slice Ao43 x10_4.length co43) x10_4) := ⟨h3_⟩
                  have n4_ : Aside0 (Kd.R (Kd.int .u64) 50 w51 w.heap.size (fun k_ => some k_ ≠ (v424 : Value).ownBlock ∧ some k_ ≠ (v427 : Value).ownBlock ∧ some k_ ≠ (v431 : Value).ownBlock ∧ some k_ ≠ (.slice Ao43 x10_4.length co43 : Value).ownBlock ∧ some k_ ≠ (u8 : Value).ownBlock) (.slice (some ad429) t408.length co28) t408) := ⟨h4_⟩
                  have n5_ : Aside0 (Kd.R (Kd.int .u64) 50 w51 w.heap.size (fun k_ => some k_ ≠ (v424 : Value).ownBlock ∧ some k_ ≠ (v427 : Value).ownBlock ∧ some k_ ≠ (v431 : Value).ownBlock ∧ some k_ ≠ (.slice Ao43 x10_4.length co43 : Value).ownBlock ∧ some k_ ≠ (.slice (some ad429) t408.length co28 : Value).ownBlock) u8 x8_4) := ⟨h5_⟩
                  have n6_ : Aside0 (Below w.heap.size w w51) := ⟨h6_⟩
                  clear HO_7
                  clear HO_8
                  clear HO_10
                  clear HB
                  clear h0_ h1_ h2_ h3_ h4_ h5_ h6_
                  have HO425 := n0_
                  have HO428 := n1_
                  have HO432 := n2_
                  have HO_10 := n3_
                  have HO_7 := n4_
                  have HO_8 := n5_
                  have HB := n6_
                  clear n0_ n1_ n2_ n3_ n4_ n5_ n6_
                  have hHeld : w51.cell? (ad429.add (x11_4).toNat) = some (.int .u64 (rd t408 x11_4)) := hS_
                  obtain ⟨Ao52, co52, eo52⟩ := Kd.R_slice HO428.out
                  (first | subst eo52 | (injection eo52 with f1_ f2_ f3_; have f4_ := f1_.symm; have f5_ := f3_.symm; clear f1_ f2_ f3_; subst f4_; subst f5_))
                  obtain ⟨Ao53, co53, eo53⟩ := Kd.R_slice HO432.out
                  (first | subst eo53 | (injection eo53 with f1_ f2_ f3_; have f4_ := f1_.symm; have f5_ := f3_.symm; clear f1_ f2_ f3_; subst f4_; subst f5_))
                  refine norm_ (a' := ?_) ?_ ?_
                  rotate_left
                  ·
                   simp only [putAll, Act.put, ss_]
                   rfl
                  refine one_ (i := 8) (N := some 77) #[true, true, true, true, true, true, true, true, true, false] rfl rfl (one_of HT_.out (by kernel_rfl)) (by decide) (fun K hK => ?_)
                  refine goes_ Try.func36 (by kernel_rfl) rfl #[.slice Ao52 t426.length co52, .slice Ao53 y430.length co53] (by rfl) rfl rfl mt_ ?_
                  with_reducible refine (syzygyref01_Add.calls k4 _ _ t426 _ _ y430 t433 _ ?side1 ?side2 ?side3 ?side4 A35.out).mono ?_
                  (case side1 => exact cc_ (Kd.R_reads' HO428.out).2.2)
                  (case side2 => exact (Kd.R_reads' HO428.out).2.1)
                  (case side3 => exact cc_ (Kd.R_reads' HO432.out).2.2)
                  (case side4 => exact (Kd.R_reads' HO432.out).2.1)
                  rintro e w54 ⟨v434, rfl, ho0, hb⟩
                  have HS0_ := (hb.cell (World.block_lt_of_cell? _ _ (hHeld))).trans (hHeld)
                  refine ⟨_, rfl, ?_⟩
                  have n0_ := Aside0.mk (Kd.R_elder' (rR_ HO_7) (Kd.R_base ho0) hb)
                  have n1_ := Aside0.mk (Kd.R_elder' (rR_ HO_8) (Kd.R_base ho0) hb)
                  have n2_ := Aside0.mk (Kd.R_elder' (rR_ HO_10) (Kd.R_base ho0) hb)
                  have n3_ := Aside0.mk (Kd.R_elder' (rR_ HO425) (Kd.R_base ho0) hb)
                  have n4_ := Aside0.mk (Kd.R_elder' (rR_ HO428) (Kd.R_base ho0) hb)
                  have n5_ := Aside0.mk (Kd.R_elder' (rR_ HO432) (Kd.R_base ho0) hb)
                  have n6_ := Aside0.mk (Kd.R_lower (Kd.R_new' (Kd.R_new' (Kd.R_new' (Kd.R_new' (Kd.R_new' (Kd.R_new' ho0 (Kd.R_lt (rR_ HO_7))) (Kd.R_lt (rR_ HO_8))) (Kd.R_lt (rR_ HO_10))) (Kd.R_lt (rR_ HO425))) (Kd.R_lt (rR_ HO428))) (Kd.R_lt (rR_ HO432))) (below_size (bb_ HB)))
                  have n7_ := Aside0.mk (below_step (bb_ HB) hb)
                  clear HO_7
                  clear HO_8
                  clear HO_10
                  clear HO425
                  clear HO428
                  clear HO432
                  clear HB
                  have HO_7 := n0_
                  have HO_8 := n1_
                  have HO_10 := n2_
                  have HO425 := n3_
                  have HO428 := n4_
                  have HO432 := n5_
                  have HO435 := n6_
                  have HB := n7_
                  clear n0_ n1_ n2_ n3_ n4_ n5_ n6_ n7_
                  (try clear hb)
                  (try clear hb2)
                  (try clear hk)
                  (try clear hi)
                  (try clear ho0)
                  refine hK.out _ _ (HS0_) (fun hHeld => ?_)
                  clear hK K
                  refine norm_ (a' := ?_) ?_ ?_
                  rotate_left
                  ·
                   show Act.put _ (some 77) _ = _
                   simp only [Act.put, ss_, i64_w, i32_w]
                   rfl
                  refine pure_ (i := 9) (N := some 10) (v := ?_) (a' := ?_) #[true, true, true, true, true, true, true, true, true, true] rfl rfl (any_of HT_.out (by kernel_rfl)) (fun _ _ _ h => h) (Or.inl ⟨by rfl, ?_⟩) ?_ ?_
                  rotate_left
                  ·
                   intro w'
                   go_simp
                   with_reducible rfl
                  rotate_left
                  ·
                   simp only [Act.put, ss_, i64_w, i32_w]
                   rfl
                  refine done_ (done_of HT_.out (by kernel_rfl)) ?_
                  obtain ⟨Ao55, co55, eo55⟩ := Kd.R_slice HO435.out
                  subst eo55
                  try go_wp2_with (first | ((with_reducible refine gate_callee (f := 35) rfl ?_); refine goesL_ (some 80) rfl rfl Try.func35 (by kernel_rfl) rfl #[.slice Ao55 t433.length co55, .slice A1 l1.length c1] rfl mt_ ?_; (with_reducible refine (syzygyref01_Cmp.calls k4 _ _ t433 _ _ l1 t436 _ ?side1 ?side2 ?side3 ?side4 A36.out).mono ?_); (case side1 => exact cc_ (Kd.R_reads' HO435.out).2.2); (case side2 => exact (Kd.R_reads' HO435.out).2.1); (case side3 => exact cc_ (Kd.C_below HR1.out HB.out)); (case side4 => exact HC1.out); rintro e w56 ⟨rfl, hb⟩; refine ⟨_, rfl, ?_⟩; have n0_ := Aside0.mk (Kd.R_below (rR_ HO_7) hb); have n1_ := Aside0.mk (Kd.R_below (rR_ HO_8) hb); have n2_ := Aside0.mk (Kd.R_below (rR_ HO_10) hb); have n3_ := Aside0.mk (Kd.R_below (rR_ HO425) hb); have n4_ := Aside0.mk (Kd.R_below (rR_ HO428) hb); have n5_ := Aside0.mk (Kd.R_below (rR_ HO432) hb); have n6_ := Aside0.mk (Kd.R_below (rR_ HO435) hb); have n7_ := Aside0.mk (below_step (bb_ HB) hb); clear HO_7; clear HO_8; clear HO_10; clear HO425; clear HO428; clear HO432; clear HO435; clear HB; have HO_7 := n0_; have HO_8 := n1_; have HO_10 := n2_; have HO425 := n3_; have HO428 := n4_; have HO432 := n5_; have HO435 := n6_; have HB := n7_; clear n0_ n1_ n2_ n3_ n4_ n5_ n6_ n7_; (try clear hb); (try clear hb2); (try clear hk); (try clear hi)) | ((with_reducible refine gate_callee (f := 71) rfl ?_); refine goesL_ (some 86) rfl rfl Try.func71 (by kernel_rfl) rfl #[.slice Ao55 t433.length co55, .slice A1 l1.length c1] rfl mt_ ?_; (with_reducible refine (syzygyref03_times.calls k4 _ _ t433 _ _ l1 t437 _ ?side1 ?side2 ?side3 ?side4 A38.out).mono ?_); (case side1 => exact cc_ (Kd.R_reads' HO435.out).2.2); (case side2 => exact (Kd.R_reads' HO435.out).2.1); (case side3 => exact cc_ (Kd.C_below HR1.out HB.out)); (case side4 => exact HC1.out); rintro e w57 ⟨rfl, hb⟩; refine ⟨_, rfl, ?_⟩; have n0_ := Aside0.mk (Kd.R_below (rR_ HO_7) hb); have n1_ := Aside0.mk (Kd.R_below (rR_ HO_8) hb); have n2_ := Aside0.mk (Kd.R_below (rR_ HO_10) hb); have n3_ := Aside0.mk (Kd.R_below (rR_ HO425) hb); have n4_ := Aside0.mk (Kd.R_below (rR_ HO428) hb); have n5_ := Aside0.mk (Kd.R_below (rR_ HO432) hb); have n6_ := Aside0.mk (Kd.R_below (rR_ HO435) hb); have n7_ := Aside0.mk (below_step (bb_ HB) hb); clear HO_7; clear HO_8; clear HO_10; clear HO425; clear HO428; clear HO432; clear HO435; clear HB; have HO_7 := n0_; have HO_8 := n1_; have HO_10 := n2_; have HO425 := n3_; have HO428 := n4_; have HO432 := n5_; have HO435 := n6_; have HB := n7_; clear n0_ n1_ n2_ n3_ n4_ n5_ n6_ n7_; (try clear hb); (try clear hb2); (try clear hk); (try clear hi); have p40 : 0 ≤ (x11_4 : Int) := of_decide_eq_true am_; have q40 : (x11_4 : Int) < ((x8_4.length : Int) : Int) := of_decide_eq_true am_; obtain ⟨go40, co40, eo40, gb40, gl40, cl40, HG40⟩ := Kd.R_form HO_8.out (by omega); (first | cases eo40 | (injection eo40 with ea_ en_ ec_; (first | subst ea_ | (injection ea_ with ea_; subst ea_)); subst ec_; clear en_)); have GB40 := Aside0.mk gb40; have GG40 := Aside0.mk HG40; clear gb40 gl40 HG40; obtain ⟨hx40_0, hf40_0⟩ := Kd.R_celln 0 HO_8.out (x11_4 : Int) p40 q40; replace p40 := eq_true p40; replace q40 := eq_true q40; have n_ := Aside0.mk (Kd.R_mono (ok' := (fun k_ => some k_ ≠ (.slice (some ad429) t408.length co28 : Value).ownBlock ∧ some k_ ≠ (.slice Ao43 x10_4.length co43 : Value).ownBlock ∧ some k_ ≠ (v424 : Value).ownBlock ∧ some k_ ≠ (.slice Ao52 t426.length co52 : Value).ownBlock ∧ some k_ ≠ (.slice Ao53 y430.length co53 : Value).ownBlock ∧ some k_ ≠ (.slice Ao55 t433.length co55 : Value).ownBlock)) HO_8.out (fun k_ hk => ⟨hk.1.2.2.2.2, ⟨hk.1.2.2.2.1, ⟨hk.1.1, ⟨hk.1.2.1, ⟨hk.1.2.2.1, hk.2⟩⟩⟩⟩⟩)); clear HO_8; have HO_8 := n_; clear n_; obtain ⟨hy58_, hz58_⟩ := Kd.R_celln 0 HO_8.out (x11_4 : Int) (of_decide_eq_true am_) (of_decide_eq_true am_); have HP58 := Kd.R_putg HO_8.out (x11_4 : Int) t437) | ((with_reducible refine gate_store (t := 50) (p := 87) rfl ?_); refine store_event (t := 50) (p := 87) (v := ?vo_w59) (w1 := (w57.setCell ⟨go40, (x11_4 : Int).toNat, none⟩ (.int .u64 t437))) ?hg ?ho ?hn ?hr ?_; (case ho => rfl); (case hg => rfl); (case hn => rfl); (case hr => exact gs_); intro w59 hw; have hg : w57.grownBy w59 (some go40) := (by rw [hw]; exact HP58.2); have hp_ : Kd.R (Kd.int .u64) 50 w59 w.heap.size (fun k_ => some k_ ≠ (.slice (some ad429) t408.length co28 : Value).ownBlock ∧ some k_ ≠ (.slice Ao43 x10_4.length co43 : Value).ownBlock ∧ some k_ ≠ (v424 : Value).ownBlock ∧ some k_ ≠ (.slice Ao52 t426.length co52 : Value).ownBlock ∧ some k_ ≠ (.slice Ao53 y430.length co53 : Value).ownBlock ∧ some k_ ≠ (.slice Ao55 t433.length co55 : Value).ownBlock) (.slice (some ⟨go40, 0, none⟩) x8_4.length co40) y438 := (by rw [hw, Ny438.out]; exact HP58.1); clear HP58; have n0_ := Aside0.mk (Kd.R_after (v := (.slice (some ⟨go40, 0, none⟩) x8_4.length co40)) (v1 := (.slice (some ⟨go40, 0, none⟩) x8_4.length co40)) (ok := (fun k_ => some k_ ≠ (.slice Ao43 x10_4.length co43 : Value).ownBlock ∧ some k_ ≠ (v424 : Value).ownBlock ∧ some k_ ≠ (.slice Ao52 t426.length co52 : Value).ownBlock ∧ some k_ ≠ (.slice Ao53 y430.length co53 : Value).ownBlock ∧ some k_ ≠ (.slice Ao55 t433.length co55 : Value).ownBlock)) (by (with_reducible repeat (first | apply Kd.R_alloc | apply Kd.R_drewN | apply Kd.R_drew)); exact Kd.R_mono HO_7.out (fun _ hk => ⟨⟨hk.1.2.2.2.1, ⟨hk.1.1, ⟨hk.1.2.1, ⟨hk.1.2.2.1, hk.2⟩⟩⟩⟩, hk.1.2.2.2.2⟩)) hg (.inl rfl)); have n1_ := Aside0.mk (hp_); have n2_ := Aside0.mk (Kd.R_after (v := (.slice (some ⟨go40, 0, none⟩) x8_4.length co40)) (v1 := (.slice (some ⟨go40, 0, none⟩) x8_4.length co40)) (ok := (fun k_ => some k_ ≠ (.slice (some ad429) t408.length co28 : Value).ownBlock ∧ some k_ ≠ (v424 : Value).ownBlock ∧ some k_ ≠ (.slice Ao52 t426.length co52 : Value).ownBlock ∧ some k_ ≠ (.slice Ao53 y430.length co53 : Value).ownBlock ∧ some k_ ≠ (.slice Ao55 t433.length co55 : Value).ownBlock)) (by (with_reducible repeat (first | apply Kd.R_alloc | apply Kd.R_drewN | apply Kd.R_drew)); exact Kd.R_mono HO_10.out (fun _ hk => ⟨⟨hk.1.2.2.2.1, ⟨hk.1.1, ⟨hk.1.2.1, ⟨hk.1.2.2.1, hk.2⟩⟩⟩⟩, hk.1.2.2.2.2⟩)) hg (.inl rfl)); have n3_ := Aside0.mk (Kd.R_after (v := (.slice (some ⟨go40, 0, none⟩) x8_4.length co40)) (v1 := (.slice (some ⟨go40, 0, none⟩) x8_4.length co40)) (ok := (fun k_ => some k_ ≠ (.slice (some ad429) t408.length co28 : Value).ownBlock ∧ some k_ ≠ (.slice Ao43 x10_4.length co43 : Value).ownBlock ∧ some k_ ≠ (.slice Ao52 t426.length co52 : Value).ownBlock ∧ some k_ ≠ (.slice Ao53 y430.length co53 : Value).ownBlock ∧ some k_ ≠ (.slice Ao55 t433.length co55 : Value).ownBlock)) (by (with_reducible repeat (first | apply Kd.R_alloc | apply Kd.R_drewN | apply Kd.R_drew)); exact Kd.R_mono HO425.out (fun _ hk => ⟨⟨hk.1.2.2.2.1, ⟨hk.1.2.2.1, ⟨hk.1.1, ⟨hk.1.2.1, hk.2⟩⟩⟩⟩, hk.1.2.2.2.2⟩)) hg (.inl rfl)); have n4_ := Aside0.mk (Kd.R_after (v := (.slice (some ⟨go40, 0, none⟩) x8_4.length co40)) (v1 := (.slice (some ⟨go40, 0, none⟩) x8_4.length co40)) (ok := (fun k_ => some k_ ≠ (.slice (some ad429) t408.length co28 : Value).ownBlock ∧ some k_ ≠ (.slice Ao43 x10_4.length co43 : Value).ownBlock ∧ some k_ ≠ (v424 : Value).ownBlock ∧ some k_ ≠ (.slice Ao53 y430.length co53 : Value).ownBlock ∧ some k_ ≠ (.slice Ao55 t433.length co55 : Value).ownBlock)) (by (with_reducible repeat (first | apply Kd.R_alloc | apply Kd.R_drewN | apply Kd.R_drew)); exact Kd.R_mono HO428.out (fun _ hk => ⟨⟨hk.1.2.2.2.1, ⟨hk.1.2.2.1, ⟨hk.1.1, ⟨hk.1.2.1, hk.2⟩⟩⟩⟩, hk.1.2.2.2.2⟩)) hg (.inl rfl)); have n5_ := Aside0.mk (Kd.R_after (v := (.slice (some ⟨go40, 0, none⟩) x8_4.length co40)) (v1 := (.slice (some ⟨go40, 0, none⟩) x8_4.length co40)) (ok := (fun k_ => some k_ ≠ (.slice (some ad429) t408.length co28 : Value).ownBlock ∧ some k_ ≠ (.slice Ao43 x10_4.length co43 : Value).ownBlock ∧ some k_ ≠ (v424 : Value).ownBlock ∧ some k_ ≠ (.slice Ao52 t426.length co52 : Value).ownBlock ∧ some k_ ≠ (.slice Ao55 t433.length co55 : Value).ownBlock)) (by (with_reducible repeat (first | apply Kd.R_alloc | apply Kd.R_drewN | apply Kd.R_drew)); exact Kd.R_mono HO432.out (fun _ hk => ⟨⟨hk.1.2.2.2.1, ⟨hk.1.2.2.1, ⟨hk.1.1, ⟨hk.1.2.1, hk.2⟩⟩⟩⟩, hk.1.2.2.2.2⟩)) hg (.inl rfl)); have n6_ := Aside0.mk (Kd.R_after (v := (.slice (some ⟨go40, 0, none⟩) x8_4.length co40)) (v1 := (.slice (some ⟨go40, 0, none⟩) x8_4.length co40)) (ok := (fun k_ => some k_ ≠ (.slice (some ad429) t408.length co28 : Value).ownBlock ∧ some k_ ≠ (.slice Ao43 x10_4.length co43 : Value).ownBlock ∧ some k_ ≠ (v424 : Value).ownBlock ∧ some k_ ≠ (.slice Ao52 t426.length co52 : Value).ownBlock ∧ some k_ ≠ (.slice Ao53 y430.length co53 : Value).ownBlock)) (by (with_reducible repeat (first | apply Kd.R_alloc | apply Kd.R_drewN | apply Kd.R_drew)); exact Kd.R_mono HO435.out (fun _ hk => ⟨⟨hk.1.1.1.1.1.2, ⟨hk.1.1.1.2, ⟨hk.1.1.2, ⟨hk.1.2, hk.2⟩⟩⟩⟩, hk.1.1.1.1.2⟩)) hg (.inl rfl)); have n7_ := Aside0.mk ((by rw [hw]; exact below_set (HB.out) GB40.out : Below w.heap.size w w59)); clear HO_7; clear HO_8; clear HO_10; clear HO425; clear HO428; clear HO432; clear HO435; clear HB; have HO_7 := n0_; have HO_8 := n1_; have HO_10 := n2_; have HO425 := n3_; have HO428 := n4_; have HO432 := n5_; have HO435 := n6_; have HB := n7_; clear n0_ n1_ n2_ n3_ n4_ n5_ n6_ n7_; clear hg hw hp_; have p439 : 0 ≤ (x11_4 : Int) := of_decide_eq_true am_; have q439 : x11_4 < (y438.length : Int) := (by have h_ : (x11_4 : Int) < ((x8_4.length : Int) : Int) := of_decide_eq_true am_; first | (have e_ := (Kd.R_reads' HO_8.out).1; omega) | simpa only [Ny438.out, List.length_set] using h_); have ql439 : ((x11_4 : Int) < ((x8_4.length : Int) : Int)) = True := eq_true (of_decide_eq_true am_); obtain ⟨ad439, e439, hx439_0⟩ := Kd.at_int (Kd.R_reads' HO_8.out).2.2 x11_4 p439 q439; obtain rfl : (⟨go40, 0, none⟩ : Addr) = ad439 := (by injection e439); (first | simp only [add_plain] at hx439_0 | simp only [add_at] at hx439_0 | simp only [Addr.add, Nat.zero_add] at hx439_0 | skip); replace p439 := eq_true p439; replace q439 := eq_true q439) | ((with_reducible refine gate_dst (N := 95) rfl ?_); (try (refine gate_guard (by rfl) ?_; dsimp only)); refine Kd.R_lit (Kd.int .u64) _ 50 ?hg (N := 95) ?hd (xs := ([rd y438 x11_4] : List Int)) (inner := [.int .u64 (rd y438 x11_4)]) (ok := fun _ => True) (okp := fun _ => True) ?hr ?hp (fun _ hk => hk) trivial (Below.refl _ _) (Nat.le_refl _) (by simp) ?_; (case hd => rfl); (case hg => rfl); (case hr => exact gs_); (case hp => exact (Reps.one (show Kd.M (Kd.int .u64) _ _ _ (rd y438 x11_4) [.int .u64 (rd y438 x11_4)] from rfl) (Reps.none _ _))); intro v441 w60 ho61 hb hg_ hnew_; clear hg_ hnew_; (first | rw [← Ny440.out] at ho61 | (simp only [Int.reduceToNat] at ho61; rw [← Ny440.out] at ho61)); have n0_ := Aside0.mk (Kd.R_elder' (rR_ HO_7) (Kd.R_base ho61) hb); have n1_ := Aside0.mk (Kd.R_elder' (rR_ HO_8) (Kd.R_base ho61) hb); have n2_ := Aside0.mk (Kd.R_elder' (rR_ HO_10) (Kd.R_base ho61) hb); have n3_ := Aside0.mk (Kd.R_elder' (rR_ HO425) (Kd.R_base ho61) hb); have n4_ := Aside0.mk (Kd.R_elder' (rR_ HO428) (Kd.R_base ho61) hb); have n5_ := Aside0.mk (Kd.R_elder' (rR_ HO432) (Kd.R_base ho61) hb); have n6_ := Aside0.mk (Kd.R_elder' (rR_ HO435) (Kd.R_base ho61) hb); have n7_ := Aside0.mk (Kd.R_lower (Kd.R_new' (Kd.R_new' (Kd.R_new' (Kd.R_new' (Kd.R_new' (Kd.R_new' (Kd.R_new' ho61 (Kd.R_lt (rR_ HO_7))) (Kd.R_lt (rR_ HO_8))) (Kd.R_lt (rR_ HO_10))) (Kd.R_lt (rR_ HO425))) (Kd.R_lt (rR_ HO428))) (Kd.R_lt (rR_ HO432))) (Kd.R_lt (rR_ HO435))) (below_size (bb_ HB))); have n8_ := Aside0.mk (below_step (bb_ HB) hb); clear HO_7; clear HO_8; clear HO_10; clear HO425; clear HO428; clear HO432; clear HO435; clear HB; have HO_7 := n0_; have HO_8 := n1_; have HO_10 := n2_; have HO425 := n3_; have HO428 := n4_; have HO432 := n5_; have HO435 := n6_; have HO442 := n7_; have HB := n8_; clear n0_ n1_ n2_ n3_ n4_ n5_ n6_ n7_ n8_; clear hb ho61; obtain ⟨Ao62, co62, eo62⟩ := Kd.R_slice HO442.out; subst eo62) | ((with_reducible refine gate_callee (f := 37) rfl ?_); refine goesL_ (some 96) rfl rfl Try.func37 (by kernel_rfl) rfl #[.slice A1 l1.length c1, .slice Ao62 y440.length co62] rfl mt_ ?_; (with_reducible refine (syzygyref01_Mul.calls k4 _ _ l1 _ _ y440 t443 _ ?side1 ?side2 ?side3 ?side4 A41.out).mono ?_); (case side1 => exact cc_ (Kd.C_below HR1.out HB.out)); (case side2 => exact HC1.out); (case side3 => exact cc_ (Kd.R_reads' HO442.out).2.2); (case side4 => exact (Kd.R_reads' HO442.out).2.1); rintro e w63 ⟨v444, rfl, ho0, hb⟩; refine ⟨_, rfl, ?_⟩; have n0_ := Aside0.mk (Kd.R_elder' (rR_ HO_7) (Kd.R_base ho0) hb); have n1_ := Aside0.mk (Kd.R_elder' (rR_ HO_8) (Kd.R_base ho0) hb); have n2_ := Aside0.mk (Kd.R_elder' (rR_ HO_10) (Kd.R_base ho0) hb); have n3_ := Aside0.mk (Kd.R_elder' (rR_ HO425) (Kd.R_base ho0) hb); have n4_ := Aside0.mk (Kd.R_elder' (rR_ HO428) (Kd.R_base ho0) hb); have n5_ := Aside0.mk (Kd.R_elder' (rR_ HO432) (Kd.R_base ho0) hb); have n6_ := Aside0.mk (Kd.R_elder' (rR_ HO435) (Kd.R_base ho0) hb); have n7_ := Aside0.mk (Kd.R_elder' (rR_ HO442) (Kd.R_base ho0) hb); have n8_ := Aside0.mk (Kd.R_lower (Kd.R_new' (Kd.R_new' (Kd.R_new' (Kd.R_new' (Kd.R_new' (Kd.R_new' (Kd.R_new' (Kd.R_new' ho0 (Kd.R_lt (rR_ HO_7))) (Kd.R_lt (rR_ HO_8))) (Kd.R_lt (rR_ HO_10))) (Kd.R_lt (rR_ HO425))) (Kd.R_lt (rR_ HO428))) (Kd.R_lt (rR_ HO432))) (Kd.R_lt (rR_ HO435))) (Kd.R_lt (rR_ HO442))) (below_size (bb_ HB))); have n9_ := Aside0.mk (below_step (bb_ HB) hb); clear HO_7; clear HO_8; clear HO_10; clear HO425; clear HO428; clear HO432; clear HO435; clear HO442; clear HB; have HO_7 := n0_; have HO_8 := n1_; have HO_10 := n2_; have HO425 := n3_; have HO428 := n4_; have HO432 := n5_; have HO435 := n6_; have HO442 := n7_; have HO445 := n8_; have HB := n9_; clear n0_ n1_ n2_ n3_ n4_ n5_ n6_ n7_ n8_ n9_; (try clear hb); (try clear hb2); (try clear hk); (try clear hi); (try clear ho0); obtain ⟨Ao64, co64, eo64⟩ := Kd.R_slice HO445.out; subst eo64) | ((with_reducible refine gate_callee (f := 72) rfl ?_); refine goesL_ (some 97) rfl rfl Try.func72 (by kernel_rfl) rfl #[.slice Ao55 t433.length co55, .slice Ao64 t443.length co64] rfl mt_ ?_; (with_reducible refine (syzygyref01_Sub.calls k4 _ _ t433 _ _ t443 t446 t447 _ ?side1 ?side2 ?side3 ?side4 A42.out).mono ?_); (case side1 => exact cc_ (Kd.R_reads' HO435.out).2.2); (case side2 => exact (Kd.R_reads' HO435.out).2.1); (case side3 => exact cc_ (Kd.R_reads' HO445.out).2.2); (case side4 => exact (Kd.R_reads' HO445.out).2.1); rintro e w65 ⟨v448, rfl, ho0, hb⟩; refine ⟨_, rfl, ?_⟩; have n0_ := Aside0.mk (Kd.R_elder' (rR_ HO_7) (Kd.R_base ho0) hb); have n1_ := Aside0.mk (Kd.R_elder' (rR_ HO_8) (Kd.R_base ho0) hb); have n2_ := Aside0.mk (Kd.R_elder' (rR_ HO_10) (Kd.R_base ho0) hb); have n3_ := Aside0.mk (Kd.R_elder' (rR_ HO425) (Kd.R_base ho0) hb); have n4_ := Aside0.mk (Kd.R_elder' (rR_ HO428) (Kd.R_base ho0) hb); have n5_ := Aside0.mk (Kd.R_elder' (rR_ HO432) (Kd.R_base ho0) hb); have n6_ := Aside0.mk (Kd.R_elder' (rR_ HO435) (Kd.R_base ho0) hb); have n7_ := Aside0.mk (Kd.R_elder' (rR_ HO442) (Kd.R_base ho0) hb); have n8_ := Aside0.mk (Kd.R_elder' (rR_ HO445) (Kd.R_base ho0) hb); have n9_ := Aside0.mk (Kd.R_lower (Kd.R_new' (Kd.R_new' (Kd.R_new' (Kd.R_new' (Kd.R_new' (Kd.R_new' (Kd.R_new' (Kd.R_new' (Kd.R_new' ho0 (Kd.R_lt (rR_ HO_7))) (Kd.R_lt (rR_ HO_8))) (Kd.R_lt (rR_ HO_10))) (Kd.R_lt (rR_ HO425))) (Kd.R_lt (rR_ HO428))) (Kd.R_lt (rR_ HO432))) (Kd.R_lt (rR_ HO435))) (Kd.R_lt (rR_ HO442))) (Kd.R_lt (rR_ HO445))) (below_size (bb_ HB))); have n10_ := Aside0.mk (below_step (bb_ HB) hb); clear HO_7; clear HO_8; clear HO_10; clear HO425; clear HO428; clear HO432; clear HO435; clear HO442; clear HO445; clear HB; have HO_7 := n0_; have HO_8 := n1_; have HO_10 := n2_; have HO425 := n3_; have HO428 := n4_; have HO432 := n5_; have HO435 := n6_; have HO442 := n7_; have HO445 := n8_; have HO449 := n9_; have HB := n10_; clear n0_ n1_ n2_ n3_ n4_ n5_ n6_ n7_ n8_ n9_ n10_; (try clear hb); (try clear hb2); (try clear hk); (try clear hi); (try clear ho0)))
                  go_roundg k4
                  case measure => have := HJ2.out; have := HJ8.out; have := HK3.out; have := HK4.out; omega
                  case rel => exact ⟨(y438), (t446), (wrap64 (x11_4 - 1)), sd_, H', ⟨by have := HJ2.out; have := HJ8.out; have := HK3.out; have := HK4.out; omega⟩, ⟨by (with_reducible repeat (first | apply Kd.R_alloc | apply Kd.R_drewN | apply Kd.R_drew)); exact Kd.R_mono HO_7.out (fun _ hk => ⟨hk.1.1.1.2, hk.2⟩)⟩, ⟨by (with_reducible repeat (first | apply Kd.R_alloc | apply Kd.R_drewN | apply Kd.R_drew)); exact Kd.R_mono HO_8.out (fun _ hk => ⟨hk.1.1.1.1, hk.2⟩)⟩, ⟨by (with_reducible repeat (first | apply Kd.R_alloc | apply Kd.R_drewN | apply Kd.R_drew)); exact Kd.R_mono HO449.out (fun _ hk => ⟨hk.1.1.1.1.1.1.1.1.2, hk.1.1.1.1.1.1.1.2⟩)⟩, ⟨by repeat (first | (with_reducible first | exact HB.out | apply below_alloc | apply pw_below_drewN | apply below_drew1) | exact HB.out)⟩⟩
                 ·
                  rw [if_neg c39] at H
                  exact absurd H (by simp)
                ·
                 rw [if_neg c37] at H
                 have c37b0 : decide (0 ≤ t436) = false := decide_eq_false c37
                 clear c37
                 have H' := Aside0.mk H
                 clear H
                 obtain ⟨Ao66, co66, eo66⟩ := Kd.R_slice HO_10.out
                 subst eo66
                 try go_wp2
                 have n0_ := Aside0.mk (Kd.R_drew HO_7.out)
                 have n1_ := Aside0.mk (Kd.R_drew HO_8.out)
                 have n2_ := Aside0.mk (Kd.R_drew HO_10.out)
                 have n3_ := Aside0.mk (below_drew1 HB.out)
                 clear HO_7
                 clear HO_8
                 clear HO_10
                 clear HB
                 have HO_7 := n0_
                 have HO_8 := n1_
                 have HO_10 := n2_
                 have HB := n3_
                 clear n0_ n1_ n2_ n3_
                 have p429 : 0 ≤ (x11_4 : Int) := of_decide_eq_true am_
                 have q429 : x11_4 < (t408.length : Int) := of_decide_eq_true am_
                 obtain ⟨ad429, e429, hx429_0⟩ := Kd.at_int (Kd.R_reads' HO_7.out).2.2 x11_4 p429 q429
                 cases e429
                 replace p429 := eq_true p429
                 replace q429 := eq_true q429
                 refine start_ (n := 10) (S := fun w' => w'.cell? (ad429.add (x11_4).toNat) = some (.int .u64 (rd t408 x11_4))) (ds := []) #[false, false, false, false, false, false, false, false, false, false] (by kernel_rfl) rfl rfl (hx429_0) (fun hHeld => ?_); refine with_tabW syzygyref03_Div.tab17 syzygyref03_Div.bits17 (fun HT_ HW_ => ?_)
                 generalize wr.drew = w67 at HO_7 HO_8 HO_10 HB hx429_0 hHeld ⊢
                 refine pure_ (i := 0) (N := some 69) (v := ?_) (a' := ?_) #[true, false, false, false, false, false, false, false, false, false] rfl rfl (any_of HT_.out (by kernel_rfl)) (fun _ _ _ h => h) (Or.inl ⟨by rfl, ?_⟩) ?_ ?_
                 rotate_left
                 ·
                  intro w'
                  go_simp
                  with_reducible rfl
                 rotate_left
                 ·
                  simp only [Act.put, ss_, i64_w, i32_w]
                  rfl
                 refine pure_ (i := 3) (N := some 72) (v := ?_) (a' := ?_) #[true, false, false, true, false, false, false, false, false, false] rfl rfl (any_of HT_.out (by kernel_rfl)) (fun _ _ _ h => h) (Or.inl ⟨by rfl, ?_⟩) ?_ ?_
                 rotate_left
                 ·
                  intro w'
                  go_simp
                  with_reducible rfl
                 rotate_left
                 ·
                  simp only [Act.put, ss_, i64_w, i32_w]
                  rfl
                 refine pure_ (i := 4) (N := some 73) (v := ?_) (a' := ?_) #[true, false, false, true, true, false, false, false, false, false] rfl rfl (any_of HT_.out (by kernel_rfl)) (fun _ _ _ h => h) (Or.inl ⟨by rfl, ?_⟩) ?_ ?_
                 rotate_left
                 ·
                  intro w'
                  go_simp
                  with_reducible rfl
                 rotate_left
                 ·
                  simp only [Act.put, ss_, i64_w, i32_w]
                  rfl
                 refine pure_ (i := 5) (N := some 74) (v := ?_) (a' := ?_) #[true, false, false, true, true, true, false, false, false, false] rfl rfl (any_of HT_.out (by kernel_rfl)) (fun _ _ _ h => h) (Or.inl ⟨by rfl, ?_⟩) ?_ ?_
                 rotate_left
                 ·
                  intro w'
                  go_simp
                  with_reducible rfl
                 rotate_left
                 ·
                  simp only [Act.put, ss_, i64_w, i32_w]
                  rfl
                 refine take_ (i := 6) (N := some 75) (v := ?_) (a' := ?_) #[true, false, false, true, true, true, true, false, false, false] rfl rfl (take_ofW HT_.out HW_.out (by kernel_rfl)) (fun _ _ _ h => h) (Or.inl ⟨by rfl, ?_⟩) hHeld ?_ ?_
                 rotate_left
                 ·
                  intro w' s0
                  go_simp
                  with_reducible rfl
                 rotate_left
                 ·
                  simp only [Act.put, ss_, i64_w, i32_w]
                  rfl
                 refine join_ (σ := Value × Value × Value) 2 #[true, true, true, true, true, true, true, true, false, false] (fun s_ => [(70, s_.1), (71, s_.2.1), (76, s_.2.2)]) (fun s_ w' => (w'.cell? (ad429.add (x11_4).toNat) = some (.int .u64 (rd t408 x11_4))) ∧ (Kd.R (Kd.int .u64) 50 w' w.heap.size (fun k_ => some k_ ≠ (s_.2.1 : Value).ownBlock ∧ some k_ ≠ (s_.2.2 : Value).ownBlock ∧ some k_ ≠ (.slice Ao66 x10_4.length co66 : Value).ownBlock ∧ some k_ ≠ (.slice (some ad429) t408.length co28 : Value).ownBlock ∧ some k_ ≠ (u8 : Value).ownBlock) s_.1 y423) ∧ (Kd.R (Kd.int .u64) 50 w' w.heap.size (fun k_ => some k_ ≠ (s_.1 : Value).ownBlock ∧ some k_ ≠ (s_.2.2 : Value).ownBlock ∧ some k_ ≠ (.slice Ao66 x10_4.length co66 : Value).ownBlock ∧ some k_ ≠ (.slice (some ad429) t408.length co28 : Value).ownBlock ∧ some k_ ≠ (u8 : Value).ownBlock) s_.2.1 t426) ∧ (Kd.R (Kd.int .u64) 50 w' w.heap.size (fun k_ => some k_ ≠ (s_.1 : Value).ownBlock ∧ some k_ ≠ (s_.2.1 : Value).ownBlock ∧ some k_ ≠ (.slice Ao66 x10_4.length co66 : Value).ownBlock ∧ some k_ ≠ (.slice (some ad429) t408.length co28 : Value).ownBlock ∧ some k_ ≠ (u8 : Value).ownBlock) s_.2.2 y430) ∧ (Kd.R (Kd.int .u64) 50 w' w.heap.size (fun k_ => some k_ ≠ (s_.1 : Value).ownBlock ∧ some k_ ≠ (s_.2.1 : Value).ownBlock ∧ some k_ ≠ (s_.2.2 : Value).ownBlock ∧ some k_ ≠ (.slice (some ad429) t408.length co28 : Value).ownBlock ∧ some k_ ≠ (u8 : Value).ownBlock) (.slice Ao66 x10_4.length co66) x10_4) ∧ (Kd.R (Kd.int .u64) 50 w' w.heap.size (fun k_ => some k_ ≠ (s_.1 : Value).ownBlock ∧ some k_ ≠ (s_.2.1 : Value).ownBlock ∧ some k_ ≠ (s_.2.2 : Value).ownBlock ∧ some k_ ≠ (.slice Ao66 x10_4.length co66 : Value).ownBlock ∧ some k_ ≠ (u8 : Value).ownBlock) (.slice (some ad429) t408.length co28) t408) ∧ (Kd.R (Kd.int .u64) 50 w' w.heap.size (fun k_ => some k_ ≠ (s_.1 : Value).ownBlock ∧ some k_ ≠ (s_.2.1 : Value).ownBlock ∧ some k_ ≠ (s_.2.2 : Value).ownBlock ∧ some k_ ≠ (.slice Ao66 x10_4.length co66 : Value).ownBlock ∧ some k_ ≠ (.slice (some ad429) t408.length co28 : Value).ownBlock) u8 x8_4) ∧ (Below w.heap.size w w')) ?_ ?_
                 rotate_left
                 ·
                  intro hCont
                  refine two_ (i := 1) (j := 7) (Ni := some 70) (Nj := some 76) #[true, true, false, true, true, true, true, false, false, false] #[true, false, false, true, true, true, true, true, false, false] rfl rfl rfl rfl (two_of HT_.out (by kernel_rfl)) (by decide) (by decide) (fun K hK => ?_) (fun K hK => ?_)
                  ·
                   skip
                   refine Kd.R_lit_step (Kd.int .u64) _ 50 ?hg (N := 70) ?hd (xs := ([4294967296] : List Int)) (inner := [.int .u64 4294967296]) (ok := fun _ => True) (okp := fun _ => True) ?hr ?hp (fun _ hk => hk) trivial (Below.refl _ _) (Nat.le_refl _) (by simp) ?_; (case hd => rfl); (case hg => rfl); (case hr => exact gs_); (case hp => exact (Reps.one (show Kd.M (Kd.int .u64) _ _ _ 4294967296 [.int .u64 4294967296] from rfl) (Reps.none _ _)))
                   intro v424 w68 ho69 hb hg_ hnew_
                   have HS0_ := (hb.cell (World.block_lt_of_cell? _ _ (hHeld))).trans (hHeld)
                   clear hg_ hnew_
                   (first | rw [← Ny423.out] at ho69 | (simp only [Int.reduceToNat] at ho69; rw [← Ny423.out] at ho69))
                   have n0_ := Aside0.mk (Kd.R_elder' (rR_ HO_7) (Kd.R_base ho69) hb)
                   have n1_ := Aside0.mk (Kd.R_elder' (rR_ HO_8) (Kd.R_base ho69) hb)
                   have n2_ := Aside0.mk (Kd.R_elder' (rR_ HO_10) (Kd.R_base ho69) hb)
                   have n3_ := Aside0.mk (Kd.R_lower (Kd.R_new' (Kd.R_new' (Kd.R_new' ho69 (Kd.R_lt (rR_ HO_7))) (Kd.R_lt (rR_ HO_8))) (Kd.R_lt (rR_ HO_10))) (below_size (bb_ HB)))
                   have n4_ := Aside0.mk (below_step (bb_ HB) hb)
                   clear HO_7
                   clear HO_8
                   clear HO_10
                   clear HB
                   have HO_7 := n0_
                   have HO_8 := n1_
                   have HO_10 := n2_
                   have HO425 := n3_
                   have HB := n4_
                   clear n0_ n1_ n2_ n3_ n4_
                   clear hb ho69
                   obtain ⟨Ao70, co70, eo70⟩ := Kd.R_slice HO425.out
                   (first | subst eo70 | (injection eo70 with f1_ f2_ f3_; have f4_ := f1_.symm; have f5_ := f3_.symm; clear f1_ f2_ f3_; subst f4_; subst f5_))
                   refine hK.out _ _ (HS0_) (fun hHeld => ?_)
                   clear hK K
                   refine norm_ (a' := ?_) ?_ ?_
                   rotate_left
                   ·
                    show Act.put _ (some 70) _ = _
                    simp only [Act.put, ss_, i64_w, i32_w]
                    rfl
                   refine two_ (i := 2) (j := 7) (Ni := some 71) (Nj := some 76) #[true, true, true, true, true, true, true, false, false, false] #[true, true, false, true, true, true, true, true, false, false] rfl rfl rfl rfl (two_of HT_.out (by kernel_rfl)) (by decide) (by decide) (fun K hK => ?_) (fun K hK => ?_)
                   ·
                    skip
                    refine goes_ Try.func37 (by kernel_rfl) rfl #[.slice Ao66 x10_4.length co66, .slice Ao70 y423.length co70] (by rfl) rfl rfl mt_ ?_
                    with_reducible refine (syzygyref01_Mul.calls k4 _ _ x10_4 _ _ y423 t426 _ ?side1 ?side2 ?side3 ?side4 A32.out).mono ?_
                    (case side1 => exact cc_ (Kd.R_reads' HO_10.out).2.2)
                    (case side2 => exact (Kd.R_reads' HO_10.out).2.1)
                    (case side3 => exact cc_ (Kd.R_reads' HO425.out).2.2)
                    (case side4 => exact (Kd.R_reads' HO425.out).2.1)
                    rintro e w71 ⟨v427, rfl, ho0, hb⟩
                    have HS0_ := (hb.cell (World.block_lt_of_cell? _ _ (hHeld))).trans (hHeld)
                    refine ⟨_, rfl, ?_⟩
                    have n0_ := Aside0.mk (Kd.R_elder' (rR_ HO_7) (Kd.R_base ho0) hb)
                    have n1_ := Aside0.mk (Kd.R_elder' (rR_ HO_8) (Kd.R_base ho0) hb)
                    have n2_ := Aside0.mk (Kd.R_elder' (rR_ HO_10) (Kd.R_base ho0) hb)
                    have n3_ := Aside0.mk (Kd.R_elder' (rR_ HO425) (Kd.R_base ho0) hb)
                    have n4_ := Aside0.mk (Kd.R_lower (Kd.R_new' (Kd.R_new' (Kd.R_new' (Kd.R_new' ho0 (Kd.R_lt (rR_ HO_7))) (Kd.R_lt (rR_ HO_8))) (Kd.R_lt (rR_ HO_10))) (Kd.R_lt (rR_ HO425))) (below_size (bb_ HB)))
                    have n5_ := Aside0.mk (below_step (bb_ HB) hb)
                    clear HO_7
                    clear HO_8
                    clear HO_10
                    clear HO425
                    clear HB
                    have HO_7 := n0_
                    have HO_8 := n1_
                    have HO_10 := n2_
                    have HO425 := n3_
                    have HO428 := n4_
                    have HB := n5_
                    clear n0_ n1_ n2_ n3_ n4_ n5_
                    (try clear hb)
                    (try clear hb2)
                    (try clear hk)
                    (try clear hi)
                    (try clear ho0)
                    refine hK.out _ _ (HS0_) (fun hHeld => ?_)
                    clear hK K
                    refine norm_ (a' := ?_) ?_ ?_
                    rotate_left
                    ·
                     show Act.put _ (some 71) _ = _
                     simp only [Act.put, ss_, i64_w, i32_w]
                     rfl
                    refine one_ (i := 7) (N := some 76) #[true, true, true, true, true, true, true, true, false, false] rfl rfl (one_of HT_.out (by kernel_rfl)) (by decide) (fun K hK => ?_)
                    refine Kd.R_lit_step (Kd.int .u64) _ 50 ?hg (N := 76) ?hd (xs := ([rd t408 x11_4] : List Int)) (inner := [.int .u64 (rd t408 x11_4)]) (ok := fun _ => True) (okp := fun _ => True) ?hr ?hp (fun _ hk => hk) trivial (Below.refl _ _) (Nat.le_refl _) (by simp) ?_; (case hd => rfl); (case hg => rfl); (case hr => exact gs_); (case hp => exact (Reps.one (show Kd.M (Kd.int .u64) _ _ _ (rd t408 x11_4) [.int .u64 (rd t408 x11_4)] from rfl) (Reps.none _ _)))
                    intro v431 w72 ho73 hb hg_ hnew_
                    have HS0_ := (hb.cell (World.block_lt_of_cell? _ _ (hHeld))).trans (hHeld)
                    clear hg_ hnew_
                    (first | rw [← Ny430.out] at ho73 | (simp only [Int.reduceToNat] at ho73; rw [← Ny430.out] at ho73))
                    have n0_ := Aside0.mk (Kd.R_elder' (rR_ HO_7) (Kd.R_base ho73) hb)
                    have n1_ := Aside0.mk (Kd.R_elder' (rR_ HO_8) (Kd.R_base ho73) hb)
                    have n2_ := Aside0.mk (Kd.R_elder' (rR_ HO_10) (Kd.R_base ho73) hb)
                    have n3_ := Aside0.mk (Kd.R_elder' (rR_ HO425) (Kd.R_base ho73) hb)
                    have n4_ := Aside0.mk (Kd.R_elder' (rR_ HO428) (Kd.R_base ho73) hb)
                    have n5_ := Aside0.mk (Kd.R_lower (Kd.R_new' (Kd.R_new' (Kd.R_new' (Kd.R_new' (Kd.R_new' ho73 (Kd.R_lt (rR_ HO_7))) (Kd.R_lt (rR_ HO_8))) (Kd.R_lt (rR_ HO_10))) (Kd.R_lt (rR_ HO425))) (Kd.R_lt (rR_ HO428))) (below_size (bb_ HB)))
                    have n6_ := Aside0.mk (below_step (bb_ HB) hb)
                    clear HO_7
                    clear HO_8
                    clear HO_10
                    clear HO425
                    clear HO428
                    clear HB
                    have HO_7 := n0_
                    have HO_8 := n1_
                    have HO_10 := n2_
                    have HO425 := n3_
                    have HO428 := n4_
                    have HO432 := n5_
                    have HB := n6_
                    clear n0_ n1_ n2_ n3_ n4_ n5_ n6_
                    clear hb ho73
                    refine hK.out _ _ (HS0_) (fun hHeld => ?_)
                    clear hK K
                    refine norm_ (a' := ?_) ?_ ?_
                    rotate_left
                    ·
                     show Act.put _ (some 76) _ = _
                     simp only [Act.put, ss_, i64_w, i32_w]
                     rfl
                    exact norm_ (by simp only [putAll, Act.put, ss_]) (hCont (.slice Ao70 y423.length co70, v427, v431) _ ⟨hHeld, (by (with_reducible repeat (first | apply Kd.R_alloc | apply Kd.R_drewN | apply Kd.R_drew)); exact Kd.R_mono HO425.out (fun _ hk => ⟨hk.1.2, ⟨hk.2, ⟨hk.1.1.2, ⟨hk.1.1.1.1.2, hk.1.1.1.2⟩⟩⟩⟩)), (by (with_reducible repeat (first | apply Kd.R_alloc | apply Kd.R_drewN | apply Kd.R_drew)); exact Kd.R_mono HO428.out (fun _ hk => ⟨hk.1.2, ⟨hk.2, ⟨hk.1.1.2, ⟨hk.1.1.1.1.2, hk.1.1.1.2⟩⟩⟩⟩)), (by (with_reducible repeat (first | apply Kd.R_alloc | apply Kd.R_drewN | apply Kd.R_drew)); exact Kd.R_mono HO432.out (fun _ hk => ⟨hk.1.2, ⟨hk.2, ⟨hk.1.1.2, ⟨hk.1.1.1.1.2, hk.1.1.1.2⟩⟩⟩⟩)), (by (with_reducible repeat (first | apply Kd.R_alloc | apply Kd.R_drewN | apply Kd.R_drew)); exact Kd.R_mono HO_10.out (fun _ hk => ⟨hk.1.1.2, ⟨hk.1.2, ⟨hk.2, ⟨hk.1.1.1.1, hk.1.1.1.2⟩⟩⟩⟩)), (by (with_reducible repeat (first | apply Kd.R_alloc | apply Kd.R_drewN | apply Kd.R_drew)); exact Kd.R_mono HO_7.out (fun _ hk => ⟨hk.1.1.2, ⟨hk.1.2, ⟨hk.2, ⟨hk.1.1.1.2, hk.1.1.1.1⟩⟩⟩⟩)), (by (with_reducible repeat (first | apply Kd.R_alloc | apply Kd.R_drewN | apply Kd.R_drew)); exact Kd.R_mono HO_8.out (fun _ hk => ⟨hk.1.1.2, ⟨hk.1.2, ⟨hk.2, ⟨hk.1.1.1.2, hk.1.1.1.1⟩⟩⟩⟩)), (bb_ HB)⟩)
                   ·
                    skip
                    refine Kd.R_lit_step (Kd.int .u64) _ 50 ?hg (N := 76) ?hd (xs := ([rd t408 x11_4] : List Int)) (inner := [.int .u64 (rd t408 x11_4)]) (ok := fun _ => True) (okp := fun _ => True) ?hr ?hp (fun _ hk => hk) trivial (Below.refl _ _) (Nat.le_refl _) (by simp) ?_; (case hd => rfl); (case hg => rfl); (case hr => exact gs_); (case hp => exact (Reps.one (show Kd.M (Kd.int .u64) _ _ _ (rd t408 x11_4) [.int .u64 (rd t408 x11_4)] from rfl) (Reps.none _ _)))
                    intro v431 w70 ho71 hb hg_ hnew_
                    have HS0_ := (hb.cell (World.block_lt_of_cell? _ _ (hHeld))).trans (hHeld)
                    clear hg_ hnew_
                    (first | rw [← Ny430.out] at ho71 | (simp only [Int.reduceToNat] at ho71; rw [← Ny430.out] at ho71))
                    have n0_ := Aside0.mk (Kd.R_elder' (rR_ HO_7) (Kd.R_base ho71) hb)
                    have n1_ := Aside0.mk (Kd.R_elder' (rR_ HO_8) (Kd.R_base ho71) hb)
                    have n2_ := Aside0.mk (Kd.R_elder' (rR_ HO_10) (Kd.R_base ho71) hb)
                    have n3_ := Aside0.mk (Kd.R_elder' (rR_ HO425) (Kd.R_base ho71) hb)
                    have n4_ := Aside0.mk (Kd.R_lower (Kd.R_new' (Kd.R_new' (Kd.R_new' (Kd.R_new' ho71 (Kd.R_lt (rR_ HO_7))) (Kd.R_lt (rR_ HO_8))) (Kd.R_lt (rR_ HO_10))) (Kd.R_lt (rR_ HO425))) (below_size (bb_ HB)))
                    have n5_ := Aside0.mk (below_step (bb_ HB) hb)
                    clear HO_7
                    clear HO_8
                    clear HO_10
                    clear HO425
                    clear HB
                    have HO_7 := n0_
                    have HO_8 := n1_
                    have HO_10 := n2_
                    have HO425 := n3_
                    have HO432 := n4_
                    have HB := n5_
                    clear n0_ n1_ n2_ n3_ n4_ n5_
                    clear hb ho71
                    obtain ⟨Ao72, co72, eo72⟩ := Kd.R_slice HO425.out
                    (first | subst eo72 | (injection eo72 with f1_ f2_ f3_; have f4_ := f1_.symm; have f5_ := f3_.symm; clear f1_ f2_ f3_; subst f4_; subst f5_))
                    refine hK.out _ _ (HS0_) (fun hHeld => ?_)
                    clear hK K
                    refine norm_ (a' := ?_) ?_ ?_
                    rotate_left
                    ·
                     show Act.put _ (some 76) _ = _
                     simp only [Act.put, ss_, i64_w, i32_w]
                     rfl
                    refine one_ (i := 2) (N := some 71) #[true, true, true, true, true, true, true, true, false, false] rfl rfl (one_of HT_.out (by kernel_rfl)) (by decide) (fun K hK => ?_)
                    refine goes_ Try.func37 (by kernel_rfl) rfl #[.slice Ao66 x10_4.length co66, .slice Ao72 y423.length co72] (by rfl) rfl rfl mt_ ?_
                    with_reducible refine (syzygyref01_Mul.calls k4 _ _ x10_4 _ _ y423 t426 _ ?side1 ?side2 ?side3 ?side4 A32.out).mono ?_
                    (case side1 => exact cc_ (Kd.R_reads' HO_10.out).2.2)
                    (case side2 => exact (Kd.R_reads' HO_10.out).2.1)
                    (case side3 => exact cc_ (Kd.R_reads' HO425.out).2.2)
                    (case side4 => exact (Kd.R_reads' HO425.out).2.1)
                    rintro e w73 ⟨v427, rfl, ho0, hb⟩
                    have HS0_ := (hb.cell (World.block_lt_of_cell? _ _ (hHeld))).trans (hHeld)
                    refine ⟨_, rfl, ?_⟩
                    have n0_ := Aside0.mk (Kd.R_elder' (rR_ HO_7) (Kd.R_base ho0) hb)
                    have n1_ := Aside0.mk (Kd.R_elder' (rR_ HO_8) (Kd.R_base ho0) hb)
                    have n2_ := Aside0.mk (Kd.R_elder' (rR_ HO_10) (Kd.R_base ho0) hb)
                    have n3_ := Aside0.mk (Kd.R_elder' (rR_ HO425) (Kd.R_base ho0) hb)
                    have n4_ := Aside0.mk (Kd.R_elder' (rR_ HO432) (Kd.R_base ho0) hb)
                    have n5_ := Aside0.mk (Kd.R_lower (Kd.R_new' (Kd.R_new' (Kd.R_new' (Kd.R_new' (Kd.R_new' ho0 (Kd.R_lt (rR_ HO_7))) (Kd.R_lt (rR_ HO_8))) (Kd.R_lt (rR_ HO_10))) (Kd.R_lt (rR_ HO425))) (Kd.R_lt (rR_ HO432))) (below_size (bb_ HB)))
                    have n6_ := Aside0.mk (below_step (bb_ HB) hb)
                    clear HO_7
                    clear HO_8
                    clear HO_10
                    clear HO425
                    clear HO432
                    clear HB
                    have HO_7 := n0_
                    have HO_8 := n1_
                    have HO_10 := n2_
                    have HO425 := n3_
                    have HO432 := n4_
                    have HO428 := n5_
                    have HB := n6_
                    clear n0_ n1_ n2_ n3_ n4_ n5_ n6_
                    (try clear hb)
                    (try clear hb2)
                    (try clear hk)
                    (try clear hi)
                    (try clear ho0)
                    refine hK.out _ _ (HS0_) (fun hHeld => ?_)
                    clear hK K
                    refine norm_ (a' := ?_) ?_ ?_
                    rotate_left
                    ·
                     show Act.put _ (some 71) _ = _
                     simp only [Act.put, ss_, i64_w, i32_w]
                     rfl
                    exact norm_ (by simp only [putAll, Act.put, ss_]) (hCont (.slice Ao72 y423.length co72, v427, v431) _ ⟨hHeld, (by (with_reducible repeat (first | apply Kd.R_alloc | apply Kd.R_drewN | apply Kd.R_drew)); exact Kd.R_mono HO425.out (fun _ hk => ⟨hk.2, ⟨hk.1.2, ⟨hk.1.1.2, ⟨hk.1.1.1.1.2, hk.1.1.1.2⟩⟩⟩⟩)), (by (with_reducible repeat (first | apply Kd.R_alloc | apply Kd.R_drewN | apply Kd.R_drew)); exact Kd.R_mono HO428.out (fun _ hk => ⟨hk.1.2, ⟨hk.2, ⟨hk.1.1.2, ⟨hk.1.1.1.1.2, hk.1.1.1.2⟩⟩⟩⟩)), (by (with_reducible repeat (first | apply Kd.R_alloc | apply Kd.R_drewN | apply Kd.R_drew)); exact Kd.R_mono HO432.out (fun _ hk => ⟨hk.1.2, ⟨hk.2, ⟨hk.1.1.2, ⟨hk.1.1.1.1.2, hk.1.1.1.2⟩⟩⟩⟩)), (by (with_reducible repeat (first | apply Kd.R_alloc | apply Kd.R_drewN | apply Kd.R_drew)); exact Kd.R_mono HO_10.out (fun _ hk => ⟨hk.1.1.2, ⟨hk.2, ⟨hk.1.2, ⟨hk.1.1.1.1, hk.1.1.1.2⟩⟩⟩⟩)), (by (with_reducible repeat (first | apply Kd.R_alloc | apply Kd.R_drewN | apply Kd.R_drew)); exact Kd.R_mono HO_7.out (fun _ hk => ⟨hk.1.1.2, ⟨hk.2, ⟨hk.1.2, ⟨hk.1.1.1.2, hk.1.1.1.1⟩⟩⟩⟩)), (by (with_reducible repeat (first | apply Kd.R_alloc | apply Kd.R_drewN | apply Kd.R_drew)); exact Kd.R_mono HO_8.out (fun _ hk => ⟨hk.1.1.2, ⟨hk.2, ⟨hk.1.2, ⟨hk.1.1.1.2, hk.1.1.1.1⟩⟩⟩⟩)), (bb_ HB)⟩)
                  ·
                   skip
                   refine Kd.R_lit_step (Kd.int .u64) _ 50 ?hg (N := 76) ?hd (xs := ([rd t408 x11_4] : List Int)) (inner := [.int .u64 (rd t408 x11_4)]) (ok := fun _ => True) (okp := fun _ => True) ?hr ?hp (fun _ hk => hk) trivial (Below.refl _ _) (Nat.le_refl _) (by simp) ?_; (case hd => rfl); (case hg => rfl); (case hr => exact gs_); (case hp => exact (Reps.one (show Kd.M (Kd.int .u64) _ _ _ (rd t408 x11_4) [.int .u64 (rd t408 x11_4)] from rfl) (Reps.none _ _)))
                   intro v431 w68 ho69 hb hg_ hnew_
                   have HS0_ := (hb.cell (World.block_lt_of_cell? _ _ (hHeld))).trans (hHeld)
                   clear hg_ hnew_
                   (first | rw [← Ny430.out] at ho69 | (simp only [Int.reduceToNat] at ho69; rw [← Ny430.out] at ho69))
                   have n0_ := Aside0.mk (Kd.R_elder' (rR_ HO_7) (Kd.R_base ho69) hb)
                   have n1_ := Aside0.mk (Kd.R_elder' (rR_ HO_8) (Kd.R_base ho69) hb)
                   have n2_ := Aside0.mk (Kd.R_elder' (rR_ HO_10) (Kd.R_base ho69) hb)
                   have n3_ := Aside0.mk (Kd.R_lower (Kd.R_new' (Kd.R_new' (Kd.R_new' ho69 (Kd.R_lt (rR_ HO_7))) (Kd.R_lt (rR_ HO_8))) (Kd.R_lt (rR_ HO_10))) (below_size (bb_ HB)))
                   have n4_ := Aside0.mk (below_step (bb_ HB) hb)
                   clear HO_7
                   clear HO_8
                   clear HO_10
                   clear HB
                   have HO_7 := n0_
                   have HO_8 := n1_
                   have HO_10 := n2_
                   have HO432 := n3_
                   have HB := n4_
                   clear n0_ n1_ n2_ n3_ n4_
                   clear hb ho69
                   refine hK.out _ _ (HS0_) (fun hHeld => ?_)
                   clear hK K
                   refine norm_ (a' := ?_) ?_ ?_
                   rotate_left
                   ·
                    show Act.put _ (some 76) _ = _
                    simp only [Act.put, ss_, i64_w, i32_w]
                    rfl
                   refine one_ (i := 1) (N := some 70) #[true, true, false, true, true, true, true, true, false, false] rfl rfl (one_of HT_.out (by kernel_rfl)) (by decide) (fun K hK => ?_)
                   refine Kd.R_lit_step (Kd.int .u64) _ 50 ?hg (N := 70) ?hd (xs := ([4294967296] : List Int)) (inner := [.int .u64 4294967296]) (ok := fun _ => True) (okp := fun _ => True) ?hr ?hp (fun _ hk => hk) trivial (Below.refl _ _) (Nat.le_refl _) (by simp) ?_; (case hd => rfl); (case hg => rfl); (case hr => exact gs_); (case hp => exact (Reps.one (show Kd.M (Kd.int .u64) _ _ _ 4294967296 [.int .u64 4294967296] from rfl) (Reps.none _ _)))
                   intro v424 w70 ho71 hb hg_ hnew_
                   have HS0_ := (hb.cell (World.block_lt_of_cell? _ _ (hHeld))).trans (hHeld)
                   clear hg_ hnew_
                   (first | rw [← Ny423.out] at ho71 | (simp only [Int.reduceToNat] at ho71; rw [← Ny423.out] at ho71))
                   have n0_ := Aside0.mk (Kd.R_elder' (rR_ HO_7) (Kd.R_base ho71) hb)
                   have n1_ := Aside0.mk (Kd.R_elder' (rR_ HO_8) (Kd.R_base ho71) hb)
                   have n2_ := Aside0.mk (Kd.R_elder' (rR_ HO_10) (Kd.R_base ho71) hb)
                   have n3_ := Aside0.mk (Kd.R_elder' (rR_ HO432) (Kd.R_base ho71) hb)
                   have n4_ := Aside0.mk (Kd.R_lower (Kd.R_new' (Kd.R_new' (Kd.R_new' (Kd.R_new' ho71 (Kd.R_lt (rR_ HO_7))) (Kd.R_lt (rR_ HO_8))) (Kd.R_lt (rR_ HO_10))) (Kd.R_lt (rR_ HO432))) (below_size (bb_ HB)))
                   have n5_ := Aside0.mk (below_step (bb_ HB) hb)
                   clear HO_7
                   clear HO_8
                   clear HO_10
                   clear HO432
                   clear HB
                   have HO_7 := n0_
                   have HO_8 := n1_
                   have HO_10 := n2_
                   have HO432 := n3_
                   have HO425 := n4_
                   have HB := n5_
                   clear n0_ n1_ n2_ n3_ n4_ n5_
                   clear hb ho71
                   obtain ⟨Ao72, co72, eo72⟩ := Kd.R_slice HO425.out
                   (first | subst eo72 | (injection eo72 with f1_ f2_ f3_; have f4_ := f1_.symm; have f5_ := f3_.symm; clear f1_ f2_ f3_; subst f4_; subst f5_))
                   refine hK.out _ _ (HS0_) (fun hHeld => ?_)
                   clear hK K
                   refine norm_ (a' := ?_) ?_ ?_
                   rotate_left
                   ·
                    show Act.put _ (some 70) _ = _
                    simp only [Act.put, ss_, i64_w, i32_w]
                    rfl
                   refine one_ (i := 2) (N := some 71) #[true, true, true, true, true, true, true, true, false, false] rfl rfl (one_of HT_.out (by kernel_rfl)) (by decide) (fun K hK => ?_)
                   refine goes_ Try.func37 (by kernel_rfl) rfl #[.slice Ao66 x10_4.length co66, .slice Ao72 y423.length co72] (by rfl) rfl rfl mt_ ?_
                   with_reducible refine (syzygyref01_Mul.calls k4 _ _ x10_4 _ _ y423 t426 _ ?side1 ?side2 ?side3 ?side4 A32.out).mono ?_
                   (case side1 => exact cc_ (Kd.R_reads' HO_10.out).2.2)
                   (case side2 => exact (Kd.R_reads' HO_10.out).2.1)
                   (case side3 => exact cc_ (Kd.R_reads' HO425.out).2.2)
                   (case side4 => exact (Kd.R_reads' HO425.out).2.1)
                   rintro e w73 ⟨v427, rfl, ho0, hb⟩
                   have HS0_ := (hb.cell (World.block_lt_of_cell? _ _ (hHeld))).trans (hHeld)
                   refine ⟨_, rfl, ?_⟩
                   have n0_ := Aside0.mk (Kd.R_elder' (rR_ HO_7) (Kd.R_base ho0) hb)
                   have n1_ := Aside0.mk (Kd.R_elder' (rR_ HO_8) (Kd.R_base ho0) hb)
                   have n2_ := Aside0.mk (Kd.R_elder' (rR_ HO_10) (Kd.R_base ho0) hb)
                   have n3_ := Aside0.mk (Kd.R_elder' (rR_ HO432) (Kd.R_base ho0) hb)
                   have n4_ := Aside0.mk (Kd.R_elder' (rR_ HO425) (Kd.R_base ho0) hb)
                   have n5_ := Aside0.mk (Kd.R_lower (Kd.R_new' (Kd.R_new' (Kd.R_new' (Kd.R_new' (Kd.R_new' ho0 (Kd.R_lt (rR_ HO_7))) (Kd.R_lt (rR_ HO_8))) (Kd.R_lt (rR_ HO_10))) (Kd.R_lt (rR_ HO432))) (Kd.R_lt (rR_ HO425))) (below_size (bb_ HB)))
                   have n6_ := Aside0.mk (below_step (bb_ HB) hb)
                   clear HO_7
                   clear HO_8
                   clear HO_10
                   clear HO432
                   clear HO425
                   clear HB
                   have HO_7 := n0_
                   have HO_8 := n1_
                   have HO_10 := n2_
                   have HO432 := n3_
                   have HO425 := n4_
                   have HO428 := n5_
                   have HB := n6_
                   clear n0_ n1_ n2_ n3_ n4_ n5_ n6_
                   (try clear hb)
                   (try clear hb2)
                   (try clear hk)
                   (try clear hi)
                   (try clear ho0)
                   refine hK.out _ _ (HS0_) (fun hHeld => ?_)
                   clear hK K
                   refine norm_ (a' := ?_) ?_ ?_
                   rotate_left
                   ·
                    show Act.put _ (some 71) _ = _
                    simp only [Act.put, ss_, i64_w, i32_w]
                    rfl
                   exact norm_ (by simp only [putAll, Act.put, ss_]) (hCont (.slice Ao72 y423.length co72, v427, v431) _ ⟨hHeld, (by (with_reducible repeat (first | apply Kd.R_alloc | apply Kd.R_drewN | apply Kd.R_drew)); exact Kd.R_mono HO425.out (fun _ hk => ⟨hk.2, ⟨hk.1.2, ⟨hk.1.1.2, ⟨hk.1.1.1.1.2, hk.1.1.1.2⟩⟩⟩⟩)), (by (with_reducible repeat (first | apply Kd.R_alloc | apply Kd.R_drewN | apply Kd.R_drew)); exact Kd.R_mono HO428.out (fun _ hk => ⟨hk.2, ⟨hk.1.2, ⟨hk.1.1.2, ⟨hk.1.1.1.1.2, hk.1.1.1.2⟩⟩⟩⟩)), (by (with_reducible repeat (first | apply Kd.R_alloc | apply Kd.R_drewN | apply Kd.R_drew)); exact Kd.R_mono HO432.out (fun _ hk => ⟨hk.1.2, ⟨hk.2, ⟨hk.1.1.2, ⟨hk.1.1.1.1.2, hk.1.1.1.2⟩⟩⟩⟩)), (by (with_reducible repeat (first | apply Kd.R_alloc | apply Kd.R_drewN | apply Kd.R_drew)); exact Kd.R_mono HO_10.out (fun _ hk => ⟨hk.1.2, ⟨hk.2, ⟨hk.1.1.2, ⟨hk.1.1.1.1, hk.1.1.1.2⟩⟩⟩⟩)), (by (with_reducible repeat (first | apply Kd.R_alloc | apply Kd.R_drewN | apply Kd.R_drew)); exact Kd.R_mono HO_7.out (fun _ hk => ⟨hk.1.2, ⟨hk.2, ⟨hk.1.1.2, ⟨hk.1.1.1.2, hk.1.1.1.1⟩⟩⟩⟩)), (by (with_reducible repeat (first | apply Kd.R_alloc | apply Kd.R_drewN | apply Kd.R_drew)); exact Kd.R_mono HO_8.out (fun _ hk => ⟨hk.1.2, ⟨hk.2, ⟨hk.1.1.2, ⟨hk.1.1.1.2, hk.1.1.1.1⟩⟩⟩⟩)), (bb_ HB)⟩)
                 rintro ⟨v424, v427, v431⟩ w74 ⟨hS_, h0_, h1_, h2_, h3_, h4_, h5_, h6_⟩
                 have n0_ : Aside0 (Kd.R (Kd.int .u64) 50 w74 w.heap.size (fun k_ => some k_ ≠ (v427 : Value).ownBlock ∧ some k_ ≠ (v431 : Value).ownBlock ∧ some k_ ≠ (.slice Ao66 x10_4.length co66 : Value).ownBlock ∧ some k_ ≠ (.slice (some ad429) t408.length co28 : Value).ownBlock ∧ some k_ ≠ (u8 : Value).ownBlock) v424 y423) := ⟨h0_⟩
                 have n1_ : Aside0 (Kd.R (Kd.int .u64) 50 w74 w.heap.size (fun k_ => some k_ ≠ (v424 : Value).ownBlock ∧ some k_ ≠ (v431 : Value).ownBlock ∧ some k_ ≠ (.slice Ao66 x10_4.length co66 : Value).ownBlock ∧ some k_ ≠ (.slice (some ad429) t408.length co28 : Value).ownBlock ∧ some k_ ≠ (u8 : Value).ownBlock) v427 t426) := ⟨h1_⟩
                 have n2_ : Aside0 (Kd.R (Kd.int .u64) 50 w74 w.heap.size (fun k_ => some k_ ≠ (v424 : Value).ownBlock ∧ some k_ ≠ (v427 : Value).ownBlock ∧ some k_ ≠ (.slice Ao66 x10_4.length co66 : Value).ownBlock ∧ some k_ ≠ (.slice (some ad429) t408.length co28 : Value).ownBlock ∧ some k_ ≠ (u8 : Value).ownBlock) v431 y430) := ⟨h2_⟩
                 have n3_ : Aside0 (Kd.R (Kd.int .u64) 50 w74 w.heap.size (fun k_ => some k_ ≠ (v424 : Value).ownBlock ∧ some k_ ≠ (v427 : Value).ownBlock ∧ some k_ ≠ (v431 : Value).ownBlock ∧ some k_ ≠ (.slice (some ad429) t408.length co28 : Value).ownBlock ∧ some k_ ≠ (u8 : Value).ownBlock) (.slice Ao66 x10_4.length co66) x10_4) := ⟨h3_⟩
                 have n4_ : Aside0 (Kd.R (Kd.int .u64) 50 w74 w.heap.size (fun k_ => some k_ ≠ (v424 : Value).ownBlock ∧ some k_ ≠ (v427 : Value).ownBlock ∧ some k_ ≠ (v431 : Value).ownBlock ∧ some k_ ≠ (.slice Ao66 x10_4.length co66 : Value).ownBlock ∧ some k_ ≠ (u8 : Value).ownBlock) (.slice (some ad429) t408.length co28) t408) := ⟨h4_⟩
                 have n5_ : Aside0 (Kd.R (Kd.int .u64) 50 w74 w.heap.size (fun k_ => some k_ ≠ (v424 : Value).ownBlock ∧ some k_ ≠ (v427 : Value).ownBlock ∧ some k_ ≠ (v431 : Value).ownBlock ∧ some k_ ≠ (.slice Ao66 x10_4.length co66 : Value).ownBlock ∧ some k_ ≠ (.slice (some ad429) t408.length co28 : Value).ownBlock) u8 x8_4) := ⟨h5_⟩
                 have n6_ : Aside0 (Below w.heap.size w w74) := ⟨h6_⟩
                 clear HO_7
                 clear HO_8
                 clear HO_10
                 clear HB
                 clear h0_ h1_ h2_ h3_ h4_ h5_ h6_
                 have HO425 := n0_
                 have HO428 := n1_
                 have HO432 := n2_
                 have HO_10 := n3_
                 have HO_7 := n4_
                 have HO_8 := n5_
                 have HB := n6_
                 clear n0_ n1_ n2_ n3_ n4_ n5_ n6_
                 have hHeld : w74.cell? (ad429.add (x11_4).toNat) = some (.int .u64 (rd t408 x11_4)) := hS_
                 obtain ⟨Ao75, co75, eo75⟩ := Kd.R_slice HO428.out
                 (first | subst eo75 | (injection eo75 with f1_ f2_ f3_; have f4_ := f1_.symm; have f5_ := f3_.symm; clear f1_ f2_ f3_; subst f4_; subst f5_))
                 obtain ⟨Ao76, co76, eo76⟩ := Kd.R_slice HO432.out
                 (first | subst eo76 | (injection eo76 with f1_ f2_ f3_; have f4_ := f1_.symm; have f5_ := f3_.symm; clear f1_ f2_ f3_; subst f4_; subst f5_))
                 refine norm_ (a' := ?_) ?_ ?_
                 rotate_left
                 ·
                  simp only [putAll, Act.put, ss_]
                  rfl
                 refine one_ (i := 8) (N := some 77) #[true, true, true, true, true, true, true, true, true, false] rfl rfl (one_of HT_.out (by kernel_rfl)) (by decide) (fun K hK => ?_)
                 refine goes_ Try.func36 (by kernel_rfl) rfl #[.slice Ao75 t426.length co75, .slice Ao76 y430.length co76] (by rfl) rfl rfl mt_ ?_
                 with_reducible refine (syzygyref01_Add.calls k4 _ _ t426 _ _ y430 t433 _ ?side1 ?side2 ?side3 ?side4 A35.out).mono ?_
                 (case side1 => exact cc_ (Kd.R_reads' HO428.out).2.2)
                 (case side2 => exact (Kd.R_reads' HO428.out).2.1)
                 (case side3 => exact cc_ (Kd.R_reads' HO432.out).2.2)
                 (case side4 => exact (Kd.R_reads' HO432.out).2.1)
                 rintro e w77 ⟨v434, rfl, ho0, hb⟩
                 have HS0_ := (hb.cell (World.block_lt_of_cell? _ _ (hHeld))).trans (hHeld)
                 refine ⟨_, rfl, ?_⟩
                 have n0_ := Aside0.mk (Kd.R_elder' (rR_ HO_7) (Kd.R_base ho0) hb)
                 have n1_ := Aside0.mk (Kd.R_elder' (rR_ HO_8) (Kd.R_base ho0) hb)
                 have n2_ := Aside0.mk (Kd.R_elder' (rR_ HO_10) (Kd.R_base ho0) hb)
                 have n3_ := Aside0.mk (Kd.R_elder' (rR_ HO425) (Kd.R_base ho0) hb)
                 have n4_ := Aside0.mk (Kd.R_elder' (rR_ HO428) (Kd.R_base ho0) hb)
                 have n5_ := Aside0.mk (Kd.R_elder' (rR_ HO432) (Kd.R_base ho0) hb)
                 have n6_ := Aside0.mk (Kd.R_lower (Kd.R_new' (Kd.R_new' (Kd.R_new' (Kd.R_new' (Kd.R_new' (Kd.R_new' ho0 (Kd.R_lt (rR_ HO_7))) (Kd.R_lt (rR_ HO_8))) (Kd.R_lt (rR_ HO_10))) (Kd.R_lt (rR_ HO425))) (Kd.R_lt (rR_ HO428))) (Kd.R_lt (rR_ HO432))) (below_size (bb_ HB)))
                 have n7_ := Aside0.mk (below_step (bb_ HB) hb)
                 clear HO_7
                 clear HO_8
                 clear HO_10
                 clear HO425
                 clear HO428
                 clear HO432
                 clear HB
                 have HO_7 := n0_
                 have HO_8 := n1_
                 have HO_10 := n2_
                 have HO425 := n3_
                 have HO428 := n4_
                 have HO432 := n5_
                 have HO435 := n6_
                 have HB := n7_
                 clear n0_ n1_ n2_ n3_ n4_ n5_ n6_ n7_
                 (try clear hb)
                 (try clear hb2)
                 (try clear hk)
                 (try clear hi)
                 (try clear ho0)
                 refine hK.out _ _ (HS0_) (fun hHeld => ?_)
                 clear hK K
                 refine norm_ (a' := ?_) ?_ ?_
                 rotate_left
                 ·
                  show Act.put _ (some 77) _ = _
                  simp only [Act.put, ss_, i64_w, i32_w]
                  rfl
                 refine pure_ (i := 9) (N := some 10) (v := ?_) (a' := ?_) #[true, true, true, true, true, true, true, true, true, true] rfl rfl (any_of HT_.out (by kernel_rfl)) (fun _ _ _ h => h) (Or.inl ⟨by rfl, ?_⟩) ?_ ?_
                 rotate_left
                 ·
                  intro w'
                  go_simp
                  with_reducible rfl
                 rotate_left
                 ·
                  simp only [Act.put, ss_, i64_w, i32_w]
                  rfl
                 refine done_ (done_of HT_.out (by kernel_rfl)) ?_
                 obtain ⟨Ao78, co78, eo78⟩ := Kd.R_slice HO435.out
                 subst eo78
                 try go_wp2_with (first | ((with_reducible refine gate_callee (f := 35) rfl ?_); refine goesL_ (some 80) rfl rfl Try.func35 (by kernel_rfl) rfl #[.slice Ao78 t433.length co78, .slice A1 l1.length c1] rfl mt_ ?_; (with_reducible refine (syzygyref01_Cmp.calls k4 _ _ t433 _ _ l1 t436 _ ?side1 ?side2 ?side3 ?side4 A36.out).mono ?_); (case side1 => exact cc_ (Kd.R_reads' HO435.out).2.2); (case side2 => exact (Kd.R_reads' HO435.out).2.1); (case side3 => exact cc_ (Kd.C_below HR1.out HB.out)); (case side4 => exact HC1.out); rintro e w79 ⟨rfl, hb⟩; refine ⟨_, rfl, ?_⟩; have n0_ := Aside0.mk (Kd.R_below (rR_ HO_7) hb); have n1_ := Aside0.mk (Kd.R_below (rR_ HO_8) hb); have n2_ := Aside0.mk (Kd.R_below (rR_ HO_10) hb); have n3_ := Aside0.mk (Kd.R_below (rR_ HO425) hb); have n4_ := Aside0.mk (Kd.R_below (rR_ HO428) hb); have n5_ := Aside0.mk (Kd.R_below (rR_ HO432) hb); have n6_ := Aside0.mk (Kd.R_below (rR_ HO435) hb); have n7_ := Aside0.mk (below_step (bb_ HB) hb); clear HO_7; clear HO_8; clear HO_10; clear HO425; clear HO428; clear HO432; clear HO435; clear HB; have HO_7 := n0_; have HO_8 := n1_; have HO_10 := n2_; have HO425 := n3_; have HO428 := n4_; have HO432 := n5_; have HO435 := n6_; have HB := n7_; clear n0_ n1_ n2_ n3_ n4_ n5_ n6_ n7_; (try clear hb); (try clear hb2); (try clear hk); (try clear hi)))
                 go_roundg k4
                 case measure => have := HJ2.out; have := HJ8.out; have := HK3.out; have := HK4.out; omega
                 case rel => exact ⟨(x8_4), (t433), (wrap64 (x11_4 - 1)), sd_, H', ⟨by have := HJ2.out; have := HJ8.out; have := HK3.out; have := HK4.out; omega⟩, ⟨by (with_reducible repeat (first | apply Kd.R_alloc | apply Kd.R_drewN | apply Kd.R_drew)); exact Kd.R_mono HO_7.out (fun _ hk => ⟨hk.1.2.2.2.2, hk.2⟩)⟩, ⟨by (with_reducible repeat (first | apply Kd.R_alloc | apply Kd.R_drewN | apply Kd.R_drew)); exact Kd.R_mono HO_8.out (fun _ hk => ⟨hk.1.2.2.2.2, hk.2⟩)⟩, ⟨by (with_reducible repeat (first | apply Kd.R_alloc | apply Kd.R_drewN | apply Kd.R_drew)); exact Kd.R_mono HO435.out (fun _ hk => ⟨hk.1.1.1.1.1.2, hk.1.1.1.1.2⟩)⟩, ⟨by repeat (first | (with_reducible first | exact HB.out | apply below_alloc | apply pw_below_drewN | apply below_drew1) | exact HB.out)⟩⟩
               ·
                rw [if_neg c34] at H
                exact absurd H (by simp)
              ·
               rw [if_neg c33] at H
               exact absurd H (by simp)
             ·
              rw [if_neg c31] at H
              have c31b0 : decide (0 ≤ x11_4) = false := decide_eq_false c31
              clear c31
              replace H := Option.bind_eq_some_iff.mp H
              obtain ⟨t420, A800, H⟩ := H
              replace H : (some (t420, x10_4, 0)) = some (r1, r2, r3) := H
              have A80 := Aside0.mk A800
              clear A800
              simp only [Option.some.injEq, Prod.mk.injEq] at H
              obtain ⟨rfl, rfl, rfl⟩ := H
              obtain ⟨Ao81, co81, eo81⟩ := Kd.R_slice HO_8.out
              subst eo81
              go_wp2_with (first | ((with_reducible refine gate_callee (f := 73) rfl ?_); refine goesL_ (some 102) rfl rfl Try.func73 (by kernel_rfl) rfl #[.slice Ao81 x8_4.length co81] rfl mt_ ?_; (with_reducible refine (syzygyref01_Whole.calls k4 _ _ x8_4 t420 _ ?side1 ?side2 A80.out).mono ?_); (case side1 => exact cc_ (Kd.R_reads' HO_8.out).2.2); (case side2 => exact (Kd.R_reads' HO_8.out).2.1); rintro e w82 ⟨v421, rfl, ho0, hb⟩; refine ⟨_, rfl, ?_⟩; have n0_ := Aside0.mk (Kd.R_elder' (rR_ HO_7) (Kd.R_base ho0) hb); have n1_ := Aside0.mk (Kd.R_elder' (rR_ HO_8) (Kd.R_base ho0) hb); have n2_ := Aside0.mk (Kd.R_elder' (rR_ HO_10) (Kd.R_base ho0) hb); have n3_ := Aside0.mk (Kd.R_lower (Kd.R_new' (Kd.R_new' (Kd.R_new' ho0 (Kd.R_lt (rR_ HO_7))) (Kd.R_lt (rR_ HO_8))) (Kd.R_lt (rR_ HO_10))) (below_size (bb_ HB))); have n4_ := Aside0.mk (below_step (bb_ HB) hb); clear HO_7; clear HO_8; clear HO_10; clear HB; have HO_7 := n0_; have HO_8 := n1_; have HO_10 := n2_; have HO422 := n3_; have HB := n4_; clear n0_ n1_ n2_ n3_ n4_; (try clear hb); (try clear hb2); (try clear hk); (try clear hi); (try clear ho0)))
              go_ret3
              exact ⟨_, _, by first | rfl | (simp [errW_none, errW_some] <;> rfl) | (simp [*, errW_none, errW_some] <;> rfl), by (with_reducible repeat (first | apply Kd.R_alloc | apply Kd.R_drewN | apply Kd.R_drew)); exact Kd.R_mono HO422.out (fun _ hk => hk.2), by (with_reducible repeat (first | apply Kd.R_alloc | apply Kd.R_drewN | apply Kd.R_drew)); exact Kd.R_mono HO_10.out (fun _ hk => hk.2), by repeat (first | (with_reducible first | exact HB.out | apply below_alloc | apply pw_below_drewN | apply below_drew1) | exact HB.out)⟩

end Go.Proofs.Ytfoickaangjmnaa.POQuotCommon
