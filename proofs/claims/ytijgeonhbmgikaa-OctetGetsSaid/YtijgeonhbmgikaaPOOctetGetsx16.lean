-- printed (pr.py)
import Derived.Test.YtijgeonhbmgikaaPOOctetGetsx0
import Derived.Test.YtijgeonhbmgikaaPOOctetGetsx4
import Derived.Test.YtijgeonhbmgikaaPOOctetGetsx13
import Derived.Test.YtijgeonhbmgikaaPOOctetGetsx14
import Derived.Test.YtijgeonhbmgikaaPOOctetGetsx15
namespace Go.Proofs.Ytijgeonhbmgikaa.POOctetGets
open Go.RowKit Go.Proofs.YtijgeonhbmgikaaN Go.Proofs.YtijgeonhbmgikaaW.PrintWords Go.Proofs.YtijgeonhbmgikaaW.PrintLast Go.Proofs.YtijgeonhbmgikaaW.PrintMore
attribute [local go_sem] qC zy qR qP za zZ qA zx
set_option maxHeartbeats 8000000
set_option maxRecDepth 100000
set_option linter.unusedVariables false
set_option linter.unusedSimpArgs false

/-! ### jC: function 78 -/
mutual
def jC.j0 : Nat → List Int → List Int → Bool → Option (List Int × List Int × Int)
 | 0, _, _, _ => none
 | k + 1, x0, x1, x21 => if x21 = true then (some (([] : List Int), ([] : List Int), 1)) else (if (x1.length : Int) = 0 then (some (([] : List Int), ([] : List Int), 30)) else (if (x0.length : Int) = 1 then (jC.j1 k x0 x1 ((x1.length : Int) == 1)) else (jC.j1 k x0 x1 false)))
def jC.j1 : Nat → List Int → List Int → Bool → Option (List Int × List Int × Int)
 | 0, _, _, _ => none
 | k + 1, x0, x1, x32 => if x32 = true then (if 0 < (x0.length : Int) then (if 0 < (x1.length : Int) then (if (rd x1 0) = 0 then (none) else ((vv.f k (IntKind.u64.wrap (Int.tdiv (rd x0 0) (rd x1 0)))).bind fun t426 => ((vv.f k (Int.tmod (rd x0 0) (rd x1 0))).bind fun t431 => (some (t426, t431, 0))))) else (none)) else (none)) else ((jD.f k x0).bind fun t434 => (jC.l0 k x1 t434 (([] : List Int)) 0))
def jC.l0 : Nat → List Int → List Int → List Int → Int → Option (List Int × List Int × Int)
 | 0, _, _, _, _ => none
 | k + 1, x1, x7, x8, x9 => if x9 < (x7.length : Int) then (if x8.length < 17592186044416 then (jC.l0 k x1 x7 (x8 ++ [0]) (wrap64 (x9 + 1))) else (none)) else (jC.l1 k x1 x7 x8 (([] : List Int)) (wrap64 ((x7.length : Int) - 1)))
def jC.l1 : Nat → List Int → List Int → List Int → List Int → Int → Option (List Int × List Int × Int)
 | 0, _, _, _, _, _ => none
 | k + 1, x1, x7, x8, x10, x11 => if x11 ≥ 0 then ((jE.f k x10 (([4294967296] : List Int))).bind fun t452 => (if 0 ≤ x11 then (if x11 < (x7.length : Int) then ((jL.f k t452 (([rd x7 x11] : List Int))).bind fun t459 => ((jO.f k t459 x1).bind fun t462 => (if t462 ≥ 0 then ((jW.f k t459 x1).bind fun t463 => (if x11 < (x8.length : Int) then ((some (x8.set (x11 : Int).toNat t463 : List Int)).bind fun y464 => ((jE.f k x1 (([rd y464 x11] : List Int))).bind fun t469 => ((jc.f k t459 t469).bind fun bt472 => (jC.l1 k x1 x7 y464 bt472.1 (wrap64 (x11 - 1)))))) else (none))) else (jC.l1 k x1 x7 x8 t459 (wrap64 (x11 - 1)))))) else (none)) else (none))) else ((jI.f k x8).bind fun t446 => (some (t446, x10, 0)))
end
def jC.f (k : Nat) (l0 : List Int) (l1 : List Int) : Option (List Int × List Int × Int) := (jZ.f l0).bind fun t422 => (if t422 = true then ((jZ.f l1).bind fun t423 => (jC.j0 k l0 l1 (!t423))) else (jC.j0 k l0 l1 true))
theorem jC.vN : ∀ k, (∀ y0 y1 y2, LeO (jC.j0 k y0 y1 y2) (jC.j0 (k + 1) y0 y1 y2)) ∧ (∀ y0 y1 y2, LeO (jC.j1 k y0 y1 y2) (jC.j1 (k + 1) y0 y1 y2)) ∧ (∀ y0 y1 y2 y3, LeO (jC.l0 k y0 y1 y2 y3) (jC.l0 (k + 1) y0 y1 y2 y3)) ∧ (∀ y0 y1 y2 y3 y4, LeO (jC.l1 k y0 y1 y2 y3 y4) (jC.l1 (k + 1) y0 y1 y2 y3 y4))
 | 0 => ⟨fun _ _ _ r h => by simp [jC.j0] at h, fun _ _ _ r h => by simp [jC.j1] at h, fun _ _ _ _ r h => by simp [jC.l0] at h, fun _ _ _ _ _ r h => by simp [jC.l1] at h⟩
 | k + 1 => by
  obtain ⟨ih0, ih1, ih2, ih3⟩ := jC.vN k
  refine ⟨?_, ?_, ?_, ?_⟩ <;> (intros; first | unfold jC.j0 | unfold jC.j1 | unfold jC.l0 | unfold jC.l1) <;> repeat' first
   | (with_reducible exact ih0 _ _ _)
   | (with_reducible exact ih1 _ _ _)
   | (with_reducible exact ih2 _ _ _ _)
   | (with_reducible exact ih3 _ _ _ _ _)
   | (with_reducible exact jL.mono _ _ _)
   | (with_reducible exact jO.mono _ _ _)
   | (with_reducible exact jD.mono _ _)
   | (with_reducible exact jE.mono _ _ _)
   | (with_reducible exact jc.mono _ _ _)
   | (with_reducible exact jI.mono _ _)
   | (with_reducible exact vv.mono _ _)
   | (with_reducible exact jW.mono _ _ _)
   | (with_reducible exact LeO.refl _)
   | (with_reducible exact LeO.none _)
   | (with_reducible refine LeO.ite ?_ ?_)
   | (with_reducible refine LeO.bind ?_ (fun _ => ?_))
theorem jC.mono : ∀ a0 a1 k, LeO (jC.f k a0 a1) (jC.f (k + 1) a0 a1) := by
 intro a0 a1 k
 obtain ⟨ih0, ih1, ih2, ih3⟩ := jC.vN k
 unfold jC.f
 repeat' first
   | (with_reducible exact ih0 _ _ _)
   | (with_reducible exact ih1 _ _ _)
   | (with_reducible exact ih2 _ _ _ _)
   | (with_reducible exact ih3 _ _ _ _ _)
   | (with_reducible exact jL.mono _ _ _)
   | (with_reducible exact jO.mono _ _ _)
   | (with_reducible exact jD.mono _ _)
   | (with_reducible exact jE.mono _ _ _)
   | (with_reducible exact jc.mono _ _ _)
   | (with_reducible exact jI.mono _ _)
   | (with_reducible exact vv.mono _ _)
   | (with_reducible exact jW.mono _ _ _)
   | (with_reducible exact LeO.refl _)
   | (with_reducible exact LeO.none _)
   | (with_reducible refine LeO.ite ?_ ?_)
   | (with_reducible refine LeO.bind ?_ (fun _ => ?_))
def jC.T6 : Bool × List (List Nat × List Nat) := (true, [([], []), ([0], [0]), ([1], [1]), ([], []), ([3], [3]), ([4], [4]), ([2, 5], [2, 5]), ([6], [6]), ([], []), ([8], [8]), ([9], [9]), ([], []), ([11], [11]), ([12], [12]), ([10, 13], [10, 13]), ([14, 7], [14]), ([7, 15, 0, 1, 2, 3, 4, 5, 6, 7], [7]), ([15, 16, 0, 1, 2, 3, 4, 5, 6, 7, 8, 9, 10, 11, 12, 13, 14, 15, 16], [15]), ([17, 0, 1, 2, 3, 4, 5, 6, 7, 8, 9, 10, 11, 12, 13, 14, 15, 16, 17], [])])
def jC.B6 : List Nat := [0, 1, 3, 0, 8, 24, 63, 127, 0, 256, 768, 0, 2048, 6144, 16128, 32767, 65535, 131071, 262143]
theorem jC.tab6 : rtab .any (opsOf Try.f78 6) = jC.T6 := by kernel_rfl
theorem jC.jLX : jAj jC.T6.2 jC.B6 = true := by kernel_rfl
def jC.T17 : Bool × List (List Nat × List Nat) := (true, [([], []), ([], []), ([0, 1], [0, 1]), ([], []), ([], []), ([3, 4], [3, 4]), ([5], [5]), ([6], [6]), ([2, 7, 2], [2, 7]), ([8, 8, 0, 1, 2, 3, 4, 5, 6, 7, 8], [0, 8])])
def jC.B17 : List Nat := [0, 0, 3, 0, 0, 24, 56, 120, 255, 511]
theorem jC.jJy : rtab .any (opsOf Try.f78 17) = jC.T17 := by kernel_rfl
theorem jC.jIe : jAj jC.T17.2 jC.B17 = true := by kernel_rfl
theorem jC.calls (k : Nat) (A0 : Option Addr) (c0 : Nat) (l0 : List Int) (A1 : Option Addr) (c1 : Nat) (l1 : List Int) (r1 : List Int) (r2 : List Int) (r3 : Int) (w : World) (hr0 : Kd.C (Kd.int .u64) w A0 l0.length l0) (hc0 : l0.length ≤ c0) (hr1 : Kd.C (Kd.int .u64) w A1 l1.length l1) (hc1 : l1.length ≤ c1) (h : jC.f k l0 l1 = some (r1, r2, r3)) :
  Calls Try.prog 78 #[.slice A0 l0.length c0, .slice A1 l1.length c1] w fun e w' => ∃ v0_ v1_ : Value, e = .returned (.tuple #[v0_, v1_, .int .i64 r3]) ∧ Kd.R (Kd.int .u64) 22 w' w.heap.size (fun k_ => some k_ ≠ (v1_ : Value).ownBlock) v0_ r1 ∧ Kd.R (Kd.int .u64) 22 w' w.heap.size (fun k_ => some k_ ≠ (v0_ : Value).ownBlock) v1_ r2 ∧ Below w.heap.size w w' := by
 have HR0 := jA.mk hr0
 have HC0 := jA.mk hc0
 clear hr0 hc0
 have HR1 := jA.mk hr1
 have HC1 := jA.mk hc1
 clear hr1 hc1
 have HB := jA.mk (Below.refl w.heap.size w)
 have H : ((jZ.f l0).bind fun t422 => (if t422 = true then ((jZ.f l1).bind fun t423 => (jC.j0 k l0 l1 (!t423))) else (jC.j0 k l0 l1 true))) = some (r1, r2, r3) := h
 clear h
 have HC3 := jA.mk H
 clear H
 go_enter Try.func78, Try.ntmps78
 go_upto_region 1 with (fail)
 go_cut [21] (fun v21 wc => ∃ (kq : Nat) (x21_2 : Bool), v21 = .bool x21_2 ∧ jA (jC.j0 kq l0 l1 x21_2 = some (r1, r2, r3)) ∧ jA (kq ≤ k) ∧ jA (Below w.heap.size w wc))
 case first =>
  have H := HC3.out
  clear HC3
  replace H := ob_ H
  obtain ⟨t422, A40, H⟩ := H
  try dsimp only at H
  have A4 := jA.mk A40
  clear A40
  by_cases c5 : t422 = true
  ·
   subst c5
   have H1 : ((jZ.f l1).bind fun t423 => (jC.j0 k l0 l1 (!t423))) = some (r1, r2, r3) := by rw [if_pos rfl] at H; exact H
   clear H
   have H := H1
   clear H1
   replace H := ob_ H
   obtain ⟨t423, A60, H⟩ := H
   try dsimp only at H
   have A6 := jA.mk A60
   clear A60
   have H' := jA.mk H
   clear H
   go_wp2_with (first | ((with_reducible refine jG (f := 74) rfl ?_); refine jo (some 15) rfl rfl Try.func74 kr_ rfl #[.slice A0 l0.length c0] rfl mt_ ?_; (with_reducible refine (jZ.calls _ _ l0 true _ ?side1 ?side2 A4.out).mono ?_); (case side1 => exact cc_ (Kd.jq HR0.out HB.out)); (case side2 => exact HC0.out); rintro e w' ⟨rfl, ⟨nd, rfl⟩⟩; refine ⟨_, rfl, ?_⟩) | ((with_reducible refine jr (N := 19) rfl ?_); (try (refine vE (by rfl) ?_; dsimp only)); refine vE (by first | rfl | kernel_rfl) ?_; dsimp only; (with_reducible refine jG (f := 74) rfl ?_); refine jo (some 19) rfl rfl Try.func74 kr_ rfl #[.slice A1 l1.length c1] rfl mt_ ?_; (with_reducible refine (jZ.calls _ _ l1 t423 _ ?side1 ?side2 A6.out).mono ?_); (case side1 => repeat (first | exact (Kd.jq HR1.out (bb_ HB)) | (with_reducible refine Kd.zh ?_ _) | (with_reducible refine Kd.zu ?_ _) | (with_reducible refine Kd.qW ?_))); (case side2 => exact HC1.out); rintro e w' ⟨rfl, ⟨nd, rfl⟩⟩; refine ⟨_, rfl, ?_⟩))
   go_meet
   case rel => exact ⟨_, (!t423), sd_, H', ⟨by first | omega | exact Nat.le_refl _⟩, ⟨(bb_ HB)⟩⟩
  ·
   replace c5 := Bool.eq_false_iff.mpr c5
   subst c5
   have H1 : (jC.j0 k l0 l1 true) = some (r1, r2, r3) := by rw [if_neg (show ¬ (false = true) by decide)] at H; exact H
   clear H
   have H := H1
   clear H1
   have H' := jA.mk H
   clear H
   go_wp2_with (first | ((with_reducible refine jG (f := 74) rfl ?_); refine jo (some 15) rfl rfl Try.func74 kr_ rfl #[.slice A0 l0.length c0] rfl mt_ ?_; (with_reducible refine (jZ.calls _ _ l0 false _ ?side1 ?side2 A4.out).mono ?_); (case side1 => exact cc_ (Kd.jq HR0.out HB.out)); (case side2 => exact HC0.out); rintro e w' ⟨rfl, ⟨nd, rfl⟩⟩; refine ⟨_, rfl, ?_⟩))
   go_meet
   case rel => exact ⟨_, (true), sd_, H', ⟨by first | omega | exact Nat.le_refl _⟩, ⟨(bb_ HB)⟩⟩
 case rest =>
  clear HC3
  try clear c1
  try clear p2
  try clear c5
  obtain ⟨kq, x21_2, rfl, HA, HJ2, HB⟩ := hcut
  cases kq with
  | zero => exact absurd HA.out (by simp [jC.j0])
  | succ kj2 =>
   have H := HA.out
   clear HA
   simp only [jC.j0] at H
   by_cases c7 : x21_2 = true
   ·
    subst c7
    have H1 : (some (([] : List Int), ([] : List Int), 1)) = some (r1, r2, r3) := by rw [if_pos rfl] at H; exact H
    clear H
    have H := H1
    clear H1
    simp only [Option.some.injEq, Prod.mk.injEq] at H
    obtain ⟨rfl, rfl, rfl⟩ := H
    go_wp2
    go_ret3
    exact ⟨_, _, ew_, nl_, nl_, (bb_ HB)⟩
   ·
    replace c7 := Bool.eq_false_iff.mpr c7
    subst c7
    have H1 : (if (l1.length : Int) = 0 then (some (([] : List Int), ([] : List Int), 30)) else (if (l0.length : Int) = 1 then (jC.j1 kj2 l0 l1 ((l1.length : Int) == 1)) else (jC.j1 kj2 l0 l1 false))) = some (r1, r2, r3) := by rw [if_neg (show ¬ (false = true) by decide)] at H; exact H
    clear H
    have H := H1
    clear H1
    by_cases c8 : (l1.length : Int) = 0
    ·
     rw [if_pos c8] at H
     have c8b0 := beq_iff_eq.mpr c8
     have c8b1 := bne_eq_false_iff_eq.mpr c8
     clear c8
     simp only [Option.some.injEq, Prod.mk.injEq] at H
     obtain ⟨rfl, rfl, rfl⟩ := H
     go_wp2
     go_ret3
     exact ⟨_, _, ew_, nl_, nl_, (bb_ HB)⟩
    ·
     rw [if_neg c8] at H
     have c8b0 := beq_eq_false_iff_ne.mpr c8
     have c8b1 := bne_iff_ne.mpr c8
     have c8b2 : ¬ (l1 = []) := fun h_ => c8 (by rw [h_]; rfl)
     have HC9 := jA.mk H
     clear H
     go_upto_region 5 with (fail)
     go_cut [32] (fun v32 wc => ∃ (kq : Nat) (x32_8 : Bool), v32 = .bool x32_8 ∧ jA (jC.j1 kq l0 l1 x32_8 = some (r1, r2, r3)) ∧ jA (kq ≤ kj2) ∧ jA (Below w.heap.size w wc))
     case first =>
      have H := HC9.out
      clear HC9
      by_cases c10 : (l0.length : Int) = 1
      ·
       rw [if_pos c10] at H
       have c10b0 := beq_iff_eq.mpr c10
       have c10b1 := bne_eq_false_iff_eq.mpr c10
       clear c10
       (first | rw [c10b0] | (simp only [zF, zW]; rw [c10b0]) | skip)
       have H' := jA.mk H
       clear H
       go_wp2
       go_meet
       case rel => exact ⟨_, (((l1.length : Int) == 1)), sd_, H', ⟨by have := HJ2.out; first | omega | exact Nat.le_refl _⟩, ⟨(bb_ HB)⟩⟩
      ·
       rw [if_neg c10] at H
       have c10b0 := beq_eq_false_iff_ne.mpr c10
       have c10b1 := bne_iff_ne.mpr c10
       (first | rw [c10b0] | (simp only [zF, zW]; rw [c10b0]) | skip)
       have H' := jA.mk H
       clear H
       go_wp2
       go_meet
       case rel => exact ⟨_, (false), sd_, H', ⟨by have := HJ2.out; first | omega | exact Nat.le_refl _⟩, ⟨(bb_ HB)⟩⟩
     case rest =>
      clear HC9
      try clear c1
      try clear p2
      try clear c5
      try clear c7
      try clear c8
      try clear c8b0
      try clear c8b1
      try clear c8b2
      try clear c10
      try clear c10b0
      try clear c10b1
      try clear p2
      obtain ⟨kq, x32_8, rfl, HA, HJ8, HB⟩ := hcut
      cases kq with
      | zero => exact absurd HA.out (by simp [jC.j1])
      | succ kj8 =>
       have H := HA.out
       clear HA
       simp only [jC.j1] at H
       by_cases c11 : x32_8 = true
       ·
        subst c11
        have H1 : (if 0 < (l0.length : Int) then (if 0 < (l1.length : Int) then (if (rd l1 0) = 0 then (none) else ((vv.f kj8 (IntKind.u64.wrap (Int.tdiv (rd l0 0) (rd l1 0)))).bind fun t426 => ((vv.f kj8 (Int.tmod (rd l0 0) (rd l1 0))).bind fun t431 => (some (t426, t431, 0))))) else (none)) else (none)) = some (r1, r2, r3) := by rw [if_pos rfl] at H; exact H
        clear H
        have H := H1
        clear H1
        by_cases c12 : 0 < (l0.length : Int)
        ·
         rw [if_pos c12] at H
         have c12b0 := decide_eq_true c12
         have c12b1 : decide (0 < l0.length) = true := decide_eq_true (by omega)
         clear c12
         by_cases c13 : 0 < (l1.length : Int)
         ·
          rw [if_pos c13] at H
          have c13b0 := decide_eq_true c13
          have c13b1 : decide (0 < l1.length) = true := decide_eq_true (by omega)
          clear c13
          by_cases c14 : (rd l1 0) = 0
          ·
           rw [if_pos c14] at H
           exact absurd H (by simp)
          ·
           rw [if_neg c14] at H
           have c14b0 := beq_eq_false_iff_ne.mpr c14
           have c14b1 := bne_iff_ne.mpr c14
           replace H := ob_ H
           obtain ⟨t426, A150, H⟩ := H
           try dsimp only at H
           have A15 := jA.mk A150
           clear A150
           replace H := ob_ H
           obtain ⟨t431, A160, H⟩ := H
           try dsimp only at H
           have A16 := jA.mk A160
           clear A160
           simp only [Option.some.injEq, Prod.mk.injEq] at H
           obtain ⟨rfl, rfl, rfl⟩ := H
           try go_wp2
           have n0_ := jA.mk (qF HB.out)
           clear HB
           have HB := n0_
           clear n0_
           have p424 : 0 ≤ (0 : Int) := (by omega)
           have q424 : 0 < (l0.length : Int) := of_decide_eq_true am_
           obtain ⟨ad424, e424, hx424_0⟩ := Kd.zD HR0.out 0 p424 q424
           have hw424_0 := hx424_0
           (try rw [show ((0 : Int)).toNat = 0 from rfl] at hw424_0)
           (try rw [show 0 * 1 = 0 from rfl] at hw424_0)
           (try rw [Addr.add_zero'] at hw424_0)
           cases e424
           have qi424 : (0 < l0.length) = True := eq_true (by omega)
           (try rw [show ((0 : Int)).toNat = 0 from rfl] at hx424_0)
           (try rw [Addr.add_zero'] at hx424_0)
           replace hx424_0 := (HB.out.cell (World.block_lt_of_cell? w _ hx424_0)).trans hx424_0
           replace p424 := eq_true p424
           replace q424 := eq_true q424
           have p425 : 0 ≤ (0 : Int) := (by omega)
           have q425 : 0 < (l1.length : Int) := of_decide_eq_true am_
           obtain ⟨ad425, e425, hx425_0⟩ := Kd.zD HR1.out 0 p425 q425
           have hw425_0 := hx425_0
           (try rw [show ((0 : Int)).toNat = 0 from rfl] at hw425_0)
           (try rw [show 0 * 1 = 0 from rfl] at hw425_0)
           (try rw [Addr.add_zero'] at hw425_0)
           cases e425
           have qi425 : (0 < l1.length) = True := eq_true (by omega)
           (try rw [show ((0 : Int)).toNat = 0 from rfl] at hx425_0)
           (try rw [Addr.add_zero'] at hx425_0)
           replace hx425_0 := (HB.out.cell (World.block_lt_of_cell? w _ hx425_0)).trans hx425_0
           replace p425 := eq_true p425
           replace q425 := eq_true q425
           have p429 : 0 ≤ (0 : Int) := (by omega)
           have q429 : 0 < (l0.length : Int) := of_decide_eq_true am_
           obtain ⟨ad429, e429, hx429_0⟩ := Kd.zD HR0.out 0 p429 q429
           have hw429_0 := hx429_0
           (try rw [show ((0 : Int)).toNat = 0 from rfl] at hw429_0)
           (try rw [show 0 * 1 = 0 from rfl] at hw429_0)
           (try rw [Addr.add_zero'] at hw429_0)
           obtain rfl : ad424 = ad429 := (by injection e429)
           have qi429 : (0 < l0.length) = True := eq_true (by omega)
           (try rw [show ((0 : Int)).toNat = 0 from rfl] at hx429_0)
           (try rw [Addr.add_zero'] at hx429_0)
           replace hx429_0 := (HB.out.cell (World.block_lt_of_cell? w _ hx429_0)).trans hx429_0
           replace p429 := eq_true p429
           replace q429 := eq_true q429
           have p430 : 0 ≤ (0 : Int) := (by omega)
           have q430 : 0 < (l1.length : Int) := of_decide_eq_true am_
           obtain ⟨ad430, e430, hx430_0⟩ := Kd.zD HR1.out 0 p430 q430
           have hw430_0 := hx430_0
           (try rw [show ((0 : Int)).toNat = 0 from rfl] at hw430_0)
           (try rw [show 0 * 1 = 0 from rfl] at hw430_0)
           (try rw [Addr.add_zero'] at hw430_0)
           obtain rfl : ad425 = ad430 := (by injection e430)
           have qi430 : (0 < l1.length) = True := eq_true (by omega)
           (try rw [show ((0 : Int)).toNat = 0 from rfl] at hx430_0)
           (try rw [Addr.add_zero'] at hx430_0)
           replace hx430_0 := (HB.out.cell (World.block_lt_of_cell? w _ hx430_0)).trans hx430_0
           replace p430 := eq_true p430
           replace q430 := eq_true q430
           refine jAc (n := 19) (S := fun w' => w'.cell? ad424 = some (.int .u64 (rd l0 0)) ∧ w'.cell? ad425 = some (.int .u64 (rd l1 0)) ∧ w'.cell? ad424 = some (.int .u64 (rd l0 0)) ∧ w'.cell? ad425 = some (.int .u64 (rd l1 0))) (ds := []) #[false, false, false, false, false, false, false, false, false, false, false, false, false, false, false, false, false, false, false] kr_ rfl rfl ⟨((HB.out.cell (World.block_lt_of_cell? w _ hw424_0)).trans hw424_0), ((HB.out.cell (World.block_lt_of_cell? w _ hw425_0)).trans hw425_0), ((HB.out.cell (World.block_lt_of_cell? w _ hw429_0)).trans hw429_0), ((HB.out.cell (World.block_lt_of_cell? w _ hw430_0)).trans hw430_0)⟩ (fun hHeld => ?_); refine jAX jC.tab6 jC.jLX (fun HT_ HW_ => ?_)
           generalize wc.drew = w17 at HB hx424_0 hx425_0 hx429_0 hx430_0 hHeld ⊢
           refine pu_ 0 (some 33) (ba_ 19 1) (vO HT_.out kr_) ?_
           refine pu_ 1 (some 34) (ba_ 19 3) (vO HT_.out kr_) ?_
           refine pu_ 3 (some 36) (ba_ 19 11) (vO HT_.out kr_) ?_
           refine pu_ 4 (some 37) (ba_ 19 27) (vO HT_.out kr_) ?_
           refine pu_ 8 (some 41) (ba_ 19 283) (vO HT_.out kr_) ?_
           refine pu_ 9 (some 42) (ba_ 19 795) (vO HT_.out kr_) ?_
           refine pu_ 11 (some 44) (ba_ 19 2843) (vO HT_.out kr_) ?_
           refine pu_ 12 (some 45) (ba_ 19 6939) (vO HT_.out kr_) ?_
           refine tk4_ 2 (some 35) (ba_ 19 6943) (jAD HT_.out HW_.out kr_) hHeld ?_
           refine tk4_ 5 (some 38) (ba_ 19 6975) (jAD HT_.out HW_.out kr_) hHeld ?_
           refine pu_ 6 (some 39) (ba_ 19 7039) (vO HT_.out kr_) ?_
           refine tk4_ 10 (some 43) (ba_ 19 8063) (jAD HT_.out HW_.out kr_) hHeld ?_
           refine tk4_ 13 (some 46) (ba_ 19 16255) (jAD HT_.out HW_.out kr_) hHeld ?_
           refine pu_ 14 (some 47) (ba_ 19 32639) (vO HT_.out kr_) ?_
           refine one_ (i := 7) (N := some 40) (ba_ 19 32767) rfl rfl (ql HT_.out kr_) (by decide) (fun K hK => ?_)
           refine jBr Try.func21 kr_ rfl #[.int .u64 (IntKind.u64.wrap (Int.tdiv (rd l0 0) (rd l1 0)))] (by rfl) rfl rfl (by (try simp only [List.map_toArray, List.map_cons, List.map_nil]); first | done | rfl | (simp only [List.length_drop, List.length_take]; rfl)) ?_
           with_reducible refine (vv.calls kj8 (IntKind.u64.wrap (Int.tdiv (rd l0 0) (rd l1 0))) t426 _ A15.out).mono ?_
           rintro e w18 ⟨v427, rfl, ho0, hb⟩
           refine ⟨_, rfl, ?_⟩
           have n0_ := jA.mk (Kd.jU ho0 (jB (bb_ HB)))
           have n1_ := bs_ HB hb
           clear HB
           have HO428 := n0_
           have HB := n1_
           clear n0_ n1_
           (try clear hb)
           (try clear hb2)
           (try clear hk)
           (try clear hi)
           (try clear ho0)
           refine hK.out _ _ ⟨((HB.out.cell (World.block_lt_of_cell? w _ hw424_0)).trans hw424_0), ((HB.out.cell (World.block_lt_of_cell? w _ hw425_0)).trans hw425_0), ((HB.out.cell (World.block_lt_of_cell? w _ hw429_0)).trans hw429_0), ((HB.out.cell (World.block_lt_of_cell? w _ hw430_0)).trans hw430_0)⟩ (fun hHeld => ?_)
           clear hK K
           refine qJ (a' := ?_) ?_ ?_
           rotate_left
           ·
            show Act.put _ (some 40) _ = _
            simp only [Act.put, ss_, zF, zW]
            rfl
           refine one_ (i := 15) (N := some 48) (ba_ 19 65535) rfl rfl (ql HT_.out kr_) (by decide) (fun K hK => ?_)
           refine jBr Try.func21 kr_ rfl #[.int .u64 (Int.tmod (rd l0 0) (rd l1 0))] (by rfl) rfl rfl (by (try simp only [List.map_toArray, List.map_cons, List.map_nil]); first | done | rfl | (simp only [List.length_drop, List.length_take]; rfl)) ?_
           with_reducible refine (vv.calls kj8 (Int.tmod (rd l0 0) (rd l1 0)) t431 _ A16.out).mono ?_
           rintro e w19 ⟨v432, rfl, ho0, hb⟩
           refine ⟨_, rfl, ?_⟩
           have n0_ := re_ HO428 ho0 hb
           have n1_ := jA.mk (Kd.jU (Kd.jR ho0 (Kd.R_lt (rR_ HO428))) (jB (bb_ HB)))
           have n2_ := bs_ HB hb
           clear HO428
           clear HB
           have HO428 := n0_
           have HO433 := n1_
           have HB := n2_
           clear n0_ n1_ n2_
           (try clear hb)
           (try clear hb2)
           (try clear hk)
           (try clear hi)
           (try clear ho0)
           refine hK.out _ _ ⟨((HB.out.cell (World.block_lt_of_cell? w _ hw424_0)).trans hw424_0), ((HB.out.cell (World.block_lt_of_cell? w _ hw425_0)).trans hw425_0), ((HB.out.cell (World.block_lt_of_cell? w _ hw429_0)).trans hw429_0), ((HB.out.cell (World.block_lt_of_cell? w _ hw430_0)).trans hw430_0)⟩ (fun hHeld => ?_)
           clear hK K
           refine qJ (a' := ?_) ?_ ?_
           rotate_left
           ·
            show Act.put _ (some 48) _ = _
            simp only [Act.put, ss_, zF, zW]
            rfl
           refine pu_ 16 (some 4) (ba_ 19 131071) (vO HT_.out kr_) ?_
           refine pu_ 17 (some 5) (ba_ 19 262143) (vO HT_.out kr_) ?_
           refine pu_ 18 (some 6) (ba_ 19 524287) (vO HT_.out kr_) ?_
           refine jBZ (jBT HT_.out kr_) ?_
           try go_wp2
           go_ret3
           exact ⟨_, _, ew_, by refine pR_ ?_; exact Kd.jk HO428.out (fun _ hk => hk.2), by refine pR_ ?_; exact Kd.jk HO433.out (fun _ hk => hk.2), (bb_ HB)⟩
         ·
          rw [if_neg c13] at H
          exact absurd H (by simp)
        ·
         rw [if_neg c12] at H
         exact absurd H (by simp)
       ·
        replace c11 := Bool.eq_false_iff.mpr c11
        subst c11
        have H1 : ((jD.f kj8 l0).bind fun t434 => (jC.l0 kj8 l1 t434 (([] : List Int)) 0)) = some (r1, r2, r3) := by rw [if_neg (show ¬ (false = true) by decide)] at H; exact H
        clear H
        have H := H1
        clear H1
        replace H := ob_ H
        obtain ⟨t434, A200, H⟩ := H
        try dsimp only at H
        have A20 := jA.mk A200
        clear A200
        obtain ⟨y437, hy437⟩ : ∃ y_ : List Int, y_ = (([] : List Int)) := ⟨_, rfl⟩
        replace H : (jC.l0 kj8 l1 t434 y437 0) = some (r1, r2, r3) := by first | (rw [hy437]; with_reducible exact H) | (have H2_ := (Option.bind_some _ _).symm.trans H; rw [hy437]; with_reducible exact H2_) | (with_reducible exact hs_ H) | with_reducible exact H | (rw [hy437]; exact H) | exact H
        have Ny437 := jA.mk hy437
        clear hy437
        have H' := jA.mk H
        clear H
        go_wp2_with (first | ((with_reducible refine jG (f := 68) rfl ?_); refine jo (some 50) rfl rfl Try.func68 kr_ rfl #[.slice A0 l0.length c0] rfl mt_ ?_; (with_reducible refine (jD.calls kj8 _ _ l0 t434 _ ?side1 ?side2 A20.out).mono ?_); (case side1 => exact cc_ (Kd.jq HR0.out HB.out)); (case side2 => exact HC0.out); rintro e w21 ⟨v435, rfl, ho0, hb⟩; refine ⟨_, rfl, ?_⟩; have HO436 := jA.mk (Kd.jU ho0 (jB (bb_ HB))); replace HB := bs_ HB hb) | ((with_reducible refine jr (N := 51) rfl ?_); (try (refine vE (by rfl) ?_; dsimp only)); refine Kd.jAN (Kd.int .u64) _ 22 ?hg (N := 51) ?hd (xs := ([] : List Int)) (inner := []) (ok := fun _ => True) (okp := fun _ => True) ?hr ?hp (fun _ hk => hk) trivial (Below.refl _ _) (Nat.le_refl _) (by simp) ?_; (case hd => rfl); (case hg => rfl); (case hr => exact gs_); (case hp => exact (Reps.none _ _)); intro v438 w22 ho23 hb hg_ hnew_; clear hg_ hnew_; (first | rw [← Ny437.out] at ho23 | (simp only [Int.reduceToNat] at ho23; rw [← Ny437.out] at ho23)); have HO439 := jA.mk (Kd.jU (Kd.jR ho23 (Kd.R_lt (rR_ HO436))) (jB (bb_ HB))); replace HO436 := re_ HO436 ho23 hb; replace HB := bs_ HB hb; clear hb ho23))
        go_loopg [8, 9] kj8 (fun kq v8 v9 w' => ∃ (x8_3 : List Int) (x9_3 : Int), v9 = .int .i64 x9_3 ∧ jA (jC.l0 kq l1 t434 x8_3 x9_3 = some (r1, r2, r3)) ∧ jA (kq ≤ kj8) ∧ jA (Kd.R (Kd.int .u64) 22 w' w.heap.size (fun k_ => some k_ ≠ (v8 : Value).ownBlock) v435 t434) ∧ jA (Kd.R (Kd.int .u64) 22 w' w.heap.size (fun k_ => some k_ ≠ (v435 : Value).ownBlock) v8 x8_3) ∧ jA (Below w.heap.size w w'))
        case atStart => exact ⟨(y437), (0), sd_, H', ⟨Nat.le_refl _⟩, ⟨by (with_reducible repeat (first | apply Kd.zK | apply Kd.zN | apply Kd.zM)); exact Kd.jk HO436.out (fun _ hk => hk.2)⟩, ⟨by (with_reducible repeat (first | apply Kd.zK | apply Kd.zN | apply Kd.zM)); exact Kd.jk HO439.out (fun _ hk => hk.2)⟩, ⟨(bb_ HB)⟩⟩
        case round =>
         clear H'
         try clear c1
         try clear c2
         try clear p2
         try clear p4
         try clear q4
         try clear hx4
         try clear qi4
         try clear c5
         try clear c6
         try clear c7
         try clear c8
         try clear c8b0
         try clear c8b1
         try clear c8b2
         try clear c10
         try clear c10b0
         try clear c10b1
         try clear c11
         try clear c12
         try clear c12b0
         try clear c12b1
         try clear c13
         try clear c13b0
         try clear c13b1
         try clear c14
         try clear c14b0
         try clear c14b1
         try clear c21
         try clear hx424_0
         try clear hx425_0
         try clear hx429_0
         try clear hx430_0
         try clear p2
         try clear p424
         try clear p425
         try clear p429
         try clear p430
         try clear q424
         try clear q425
         try clear q429
         try clear q430
         obtain ⟨x8_3, x9_3, rfl, HA, HK3, HO_7, HO_8, HB⟩ := hrel
         cases gk with
         | zero => exact absurd HA.out (by simp [jC.l0])
         | succ k3 =>
          have H := HA.out
          clear HA
          simp only [jC.l0] at H
          by_cases c24 : x9_3 < (t434.length : Int)
          ·
           rw [if_pos c24] at H
           have c24b0 := decide_eq_true c24
           clear c24
           by_cases c25 : x8_3.length < 17592186044416
           ·
            rw [if_pos c25] at H
            have LMc25 := jA.mk c25
            clear c25
            obtain ⟨y440, hy440⟩ : ∃ y_ : List Int, y_ = (x8_3 ++ [0]) := ⟨_, rfl⟩
            replace H : (jC.l0 k3 l1 t434 y440 (wrap64 (x9_3 + 1))) = some (r1, r2, r3) := by first | (rw [hy440]; with_reducible exact H) | (have H2_ := (Option.bind_some _ _).symm.trans H; rw [hy440]; with_reducible exact H2_) | (with_reducible exact hs_ H) | with_reducible exact H | (rw [hy440]; exact H) | exact H
            have Ny440 := jA.mk hy440
            clear hy440
            have H' := jA.mk H
            clear H
            obtain ⟨Ao26, co26, eo26⟩ := Kd.jm HO_7.out
            subst eo26
            go_wp2_with (first | ((with_reducible refine vU (b := .append) (xs := #[.tmp 58, .tmp 59]) rfl ?_); (try (refine vE (by rfl) ?_; dsimp only)); at_builtin; refine Kd.qM (Kd.int .u64) (w0 := w) w.heap.size rfl (.tmp 58) (.tmp 59) 35 22 (.int .u64 0) 8 rfl Try.underlying35 zw rfl (by decide) (by omega) u8 x8_3 0 [.int .u64 0] (fun k_ => some k_ ≠ (.slice Ao26 t434.length co26 : Value).ownBlock) (fun _ => False) rfl rfl ?aP (fun _ hk => hk.elim) ?aF ?aO ?aB ?aS ?aL ?_; (case aP => exact rfl); (case aB => exact (bb_ HB)); (case aF => exact (fun k_ hk => Kd.fresh' (Kd.R_lt (rR_ HO_7)) k_ hk)); (case aO => exact (rR_ HO_8)); (case aS => exact (jB (bb_ HB))); (case aL => have := LMc25.out; omega); intro v441 w27 ho hb hg hat; rw [← Ny440.out] at ho; replace HO_7 := jA.mk (Kd.zP (ok := (fun _ => True)) (by refine pR_ ?_; exact Kd.jk HO_7.out (fun _ hk => ⟨trivial, hk⟩)) hg hat); replace HB := jA.mk (hb); have HO442 := jA.mk (ho); clear HO_8 ho hb hg hat))
            go_roundg k3
            case measure => have := HJ2.out; have := HJ8.out; have := HK3.out; omega
            case rel => exact ⟨(y440), (wrap64 (x9_3 + 1)), sd_, H', ⟨by have := HJ2.out; have := HJ8.out; have := HK3.out; omega⟩, ⟨by (with_reducible repeat (first | apply Kd.zK | apply Kd.zN | apply Kd.zM)); exact Kd.jk HO_7.out (fun _ hk => hk.2)⟩, ⟨(rR_ HO442)⟩, ⟨(bb_ HB)⟩⟩
           ·
            rw [if_neg c25] at H
            exact absurd H (by simp)
          ·
           rw [if_neg c24] at H
           have c24b0 := decide_eq_false c24
           clear c24
           obtain ⟨y443, hy443⟩ : ∃ y_ : List Int, y_ = (([] : List Int)) := ⟨_, rfl⟩
           replace H : (jC.l1 k3 l1 t434 x8_3 y443 (wrap64 ((t434.length : Int) - 1))) = some (r1, r2, r3) := by first | (rw [hy443]; with_reducible exact H) | (have H2_ := (Option.bind_some _ _).symm.trans H; rw [hy443]; with_reducible exact H2_) | (with_reducible exact hs_ H) | with_reducible exact H | (rw [hy443]; exact H) | exact H
           have Ny443 := jA.mk hy443
           clear hy443
           have H' := jA.mk H
           clear H
           obtain ⟨Ao28, co28, eo28⟩ := Kd.jm HO_7.out
           subst eo28
           go_wp2_with (first | ((with_reducible refine jr (N := 61) rfl ?_); (try (refine vE (by rfl) ?_; dsimp only)); refine Kd.jAN (Kd.int .u64) _ 22 ?hg (N := 61) ?hd (xs := ([] : List Int)) (inner := []) (ok := fun _ => True) (okp := fun _ => True) ?hr ?hp (fun _ hk => hk) trivial (Below.refl _ _) (Nat.le_refl _) (by simp) ?_; (case hd => rfl); (case hg => rfl); (case hr => exact gs_); (case hp => exact (Reps.none _ _)); intro v444 w29 ho30 hb hg_ hnew_; clear hg_ hnew_; (first | rw [← Ny443.out] at ho30 | (simp only [Int.reduceToNat] at ho30; rw [← Ny443.out] at ho30)); have HO445 := jA.mk (Kd.jU (Kd.jR (Kd.jR ho30 (Kd.R_lt (rR_ HO_7))) (Kd.R_lt (rR_ HO_8))) (jB (bb_ HB))); replace HO_7 := re_ HO_7 ho30 hb; replace HO_8 := re_ HO_8 ho30 hb; replace HB := bs_ HB hb; clear hb ho30))
           go_loopg [10, 11] k3 (fun kq v10 v11 w' => ∃ (x8_4 : List Int) (x10_4 : List Int) (x11_4 : Int), v11 = .int .i64 x11_4 ∧ jA (jC.l1 kq l1 t434 x8_4 x10_4 x11_4 = some (r1, r2, r3)) ∧ jA (kq ≤ k3) ∧ jA (Kd.R (Kd.int .u64) 22 w' w.heap.size (fun k_ => some k_ ≠ (u8 : Value).ownBlock ∧ some k_ ≠ (v10 : Value).ownBlock) (.slice Ao28 t434.length co28) t434) ∧ jA (Kd.R (Kd.int .u64) 22 w' w.heap.size (fun k_ => some k_ ≠ ((.slice Ao28 t434.length co28) : Value).ownBlock ∧ some k_ ≠ (v10 : Value).ownBlock) u8 x8_4) ∧ jA (Kd.R (Kd.int .u64) 22 w' w.heap.size (fun k_ => some k_ ≠ ((.slice Ao28 t434.length co28) : Value).ownBlock ∧ some k_ ≠ (u8 : Value).ownBlock) v10 x10_4) ∧ jA (Below w.heap.size w w'))
           case atStart => exact ⟨(x8_3), (y443), (wrap64 ((t434.length : Int) - 1)), sd_, H', ⟨Nat.le_refl _⟩, ⟨(rR_ HO_7)⟩, ⟨(rR_ HO_8)⟩, ⟨by (with_reducible repeat (first | apply Kd.zK | apply Kd.zN | apply Kd.zM)); exact Kd.jk HO445.out (fun _ hk => ⟨hk.1.2, hk.2⟩)⟩, ⟨(bb_ HB)⟩⟩
           case round =>
            clear H'
            try clear c1
            try clear c2
            try clear p2
            try clear p4
            try clear q4
            try clear hx4
            try clear qi4
            try clear c5
            try clear c6
            try clear p6
            try clear c7
            try clear c8
            try clear c8b0
            try clear c8b1
            try clear c8b2
            try clear c10
            try clear c10b0
            try clear c10b1
            try clear c11
            try clear c12
            try clear c12b0
            try clear c12b1
            try clear c13
            try clear c13b0
            try clear c13b1
            try clear c14
            try clear c14b0
            try clear c14b1
            try clear c21
            try clear c24
            try clear c24b0
            try clear c25
            try clear hx424_0
            try clear hx425_0
            try clear hx429_0
            try clear hx430_0
            try clear p2
            try clear p4
            try clear p424
            try clear p425
            try clear p429
            try clear p430
            try clear q4
            try clear q424
            try clear q425
            try clear q429
            try clear q430
            obtain ⟨x8_4, x10_4, x11_4, rfl, HA, HK4, HO_7, HO_8, HO_10, HB⟩ := hrel
            cases gk with
            | zero => exact absurd HA.out (by simp [jC.l1])
            | succ k4 =>
             have H := HA.out
             clear HA
             simp only [jC.l1] at H
             by_cases c31 : x11_4 ≥ 0
             ·
              rw [if_pos c31] at H
              have c31b0 := decide_eq_true c31
              clear c31
              obtain ⟨y449, hy449⟩ : ∃ y_ : List Int, y_ = (([4294967296] : List Int)) := ⟨_, rfl⟩
              replace H : ((jE.f k4 x10_4 y449).bind fun t452 => (if 0 ≤ x11_4 then (if x11_4 < (t434.length : Int) then ((jL.f k4 t452 (([rd t434 x11_4] : List Int))).bind fun t459 => ((jO.f k4 t459 l1).bind fun t462 => (if t462 ≥ 0 then ((jW.f k4 t459 l1).bind fun t463 => (if x11_4 < (x8_4.length : Int) then ((some (x8_4.set (x11_4 : Int).toNat t463 : List Int)).bind fun y464 => ((jE.f k4 l1 (([rd y464 x11_4] : List Int))).bind fun t469 => ((jc.f k4 t459 t469).bind fun bt472 => (jC.l1 k4 l1 t434 y464 bt472.1 (wrap64 (x11_4 - 1)))))) else (none))) else (jC.l1 k4 l1 t434 x8_4 t459 (wrap64 (x11_4 - 1)))))) else (none)) else (none))) = some (r1, r2, r3) := by first | (rw [hy449]; with_reducible exact H) | (have H2_ := (Option.bind_some _ _).symm.trans H; rw [hy449]; with_reducible exact H2_) | (with_reducible exact hs_ H) | with_reducible exact H | (rw [hy449]; exact H) | exact H
              have Ny449 := jA.mk hy449
              clear hy449
              replace H := ob_ H
              obtain ⟨t452, A320, H⟩ := H
              try dsimp only at H
              have A32 := jA.mk A320
              clear A320
              by_cases c33 : 0 ≤ x11_4
              ·
               rw [if_pos c33] at H
               have c33b0 := decide_eq_true c33
               clear c33
               by_cases c34 : x11_4 < (t434.length : Int)
               ·
                rw [if_pos c34] at H
                have c34b0 := decide_eq_true c34
                clear c34
                obtain ⟨y456, hy456⟩ : ∃ y_ : List Int, y_ = (([rd t434 x11_4] : List Int)) := ⟨_, rfl⟩
                replace H : ((jL.f k4 t452 y456).bind fun t459 => ((jO.f k4 t459 l1).bind fun t462 => (if t462 ≥ 0 then ((jW.f k4 t459 l1).bind fun t463 => (if x11_4 < (x8_4.length : Int) then ((some (x8_4.set (x11_4 : Int).toNat t463 : List Int)).bind fun y464 => ((jE.f k4 l1 (([rd y464 x11_4] : List Int))).bind fun t469 => ((jc.f k4 t459 t469).bind fun bt472 => (jC.l1 k4 l1 t434 y464 bt472.1 (wrap64 (x11_4 - 1)))))) else (none))) else (jC.l1 k4 l1 t434 x8_4 t459 (wrap64 (x11_4 - 1)))))) = some (r1, r2, r3) := by first | (rw [hy456]; with_reducible exact H) | (have H2_ := (Option.bind_some _ _).symm.trans H; rw [hy456]; with_reducible exact H2_) | (with_reducible exact hs_ H) | with_reducible exact H | (rw [hy456]; exact H) | exact H
                have Ny456 := jA.mk hy456
                clear hy456
                replace H := ob_ H
                obtain ⟨t459, A350, H⟩ := H
                try dsimp only at H
                have A35 := jA.mk A350
                clear A350
                replace H := ob_ H
                obtain ⟨t462, A360, H⟩ := H
                try dsimp only at H
                have A36 := jA.mk A360
                clear A360
                by_cases c37 : t462 ≥ 0
                ·
                 rw [if_pos c37] at H
                 have c37b0 := decide_eq_true c37
                 clear c37
                 replace H := ob_ H
                 obtain ⟨t463, A380, H⟩ := H
                 try dsimp only at H
                 have A38 := jA.mk A380
                 clear A380
                 by_cases c39 : x11_4 < (x8_4.length : Int)
                 ·
                  rw [if_pos c39] at H
                  have c39b0 := decide_eq_true c39
                  clear c39
                  obtain ⟨y464, hy464⟩ : ∃ y_ : List Int, y_ = (x8_4.set (x11_4 : Int).toNat t463) := ⟨_, rfl⟩
                  replace H : ((jE.f k4 l1 (([rd y464 x11_4] : List Int))).bind fun t469 => ((jc.f k4 t459 t469).bind fun bt472 => (jC.l1 k4 l1 t434 y464 bt472.1 (wrap64 (x11_4 - 1))))) = some (r1, r2, r3) := by first | (rw [hy464]; with_reducible exact H) | (have H2_ := (Option.bind_some _ _).symm.trans H; rw [hy464]; with_reducible exact H2_) | (with_reducible exact hs_ H) | with_reducible exact H | (rw [hy464]; exact H) | exact H
                  have Ny464 := jA.mk hy464
                  clear hy464
                  obtain ⟨y466, hy466⟩ : ∃ y_ : List Int, y_ = (([rd y464 x11_4] : List Int)) := ⟨_, rfl⟩
                  replace H : ((jE.f k4 l1 y466).bind fun t469 => ((jc.f k4 t459 t469).bind fun bt472 => (jC.l1 k4 l1 t434 y464 bt472.1 (wrap64 (x11_4 - 1))))) = some (r1, r2, r3) := by first | (rw [hy466]; with_reducible exact H) | (have H2_ := (Option.bind_some _ _).symm.trans H; rw [hy466]; with_reducible exact H2_) | (with_reducible exact hs_ H) | with_reducible exact H | (rw [hy466]; exact H) | exact H
                  have Ny466 := jA.mk hy466
                  clear hy466
                  replace H := ob_ H
                  obtain ⟨t469, A410, H⟩ := H
                  try dsimp only at H
                  have A41 := jA.mk A410
                  clear A410
                  replace H := ob_ H
                  obtain ⟨⟨t472, t473⟩, A420, H⟩ := H
                  try dsimp only at H
                  have A42 := jA.mk A420
                  clear A420
                  have H' := jA.mk H
                  clear H
                  obtain ⟨Ao43, co43, eo43⟩ := Kd.jm HO_10.out
                  subst eo43
                  try go_wp2
                  have n0_ := jA.mk (Kd.zM HO_7.out)
                  have n1_ := jA.mk (Kd.zM HO_8.out)
                  have n2_ := jA.mk (Kd.zM HO_10.out)
                  have n3_ := jA.mk (qF HB.out)
                  clear HO_7
                  clear HO_8
                  clear HO_10
                  clear HB
                  have HO_7 := n0_
                  have HO_8 := n1_
                  have HO_10 := n2_
                  have HB := n3_
                  clear n0_ n1_ n2_ n3_
                  have p455 : 0 ≤ (x11_4 : Int) := of_decide_eq_true am_
                  have q455 : x11_4 < (t434.length : Int) := of_decide_eq_true am_
                  obtain ⟨ad455, e455, hx455_0⟩ := Kd.zD (Kd.jF HO_7.out).2.2 x11_4 p455 q455
                  cases e455
                  replace p455 := eq_true p455
                  replace q455 := eq_true q455
                  refine jAc (n := 10) (S := fun w' => w'.cell? (ad455.add (x11_4).toNat) = some (.int .u64 (rd t434 x11_4))) (ds := []) #[false, false, false, false, false, false, false, false, false, false] kr_ rfl rfl (hx455_0) (fun hHeld => ?_); refine jAX jC.jJy jC.jIe (fun HT_ HW_ => ?_)
                  generalize wr.drew = w44 at HO_7 HO_8 HO_10 HB hx455_0 hHeld ⊢
                  refine pu_ 0 (some 69) (ba_ 10 1) (vO HT_.out kr_) ?_
                  refine pu_ 3 (some 72) (ba_ 10 9) (vO HT_.out kr_) ?_
                  refine pu_ 4 (some 73) (ba_ 10 25) (vO HT_.out kr_) ?_
                  refine pu_ 5 (some 74) (ba_ 10 57) (vO HT_.out kr_) ?_
                  refine tk1_ 6 (some 75) (ba_ 10 121) (jAD HT_.out HW_.out kr_) hHeld ?_
                  refine jJR (σ := Value × Value × Value) 2 #[true, true, true, true, true, true, true, true, false, false] (fun s_ => [(70, s_.1), (71, s_.2.1), (76, s_.2.2)]) (fun s_ w' => (w'.cell? (ad455.add (x11_4).toNat) = some (.int .u64 (rd t434 x11_4))) ∧ (Kd.R (Kd.int .u64) 22 w' w.heap.size (fun k_ => some k_ ≠ (s_.2.1 : Value).ownBlock ∧ some k_ ≠ (s_.2.2 : Value).ownBlock ∧ some k_ ≠ (.slice Ao43 x10_4.length co43 : Value).ownBlock ∧ some k_ ≠ (.slice (some ad455) t434.length co28 : Value).ownBlock ∧ some k_ ≠ (u8 : Value).ownBlock) s_.1 y449) ∧ (Kd.R (Kd.int .u64) 22 w' w.heap.size (fun k_ => some k_ ≠ (s_.1 : Value).ownBlock ∧ some k_ ≠ (s_.2.2 : Value).ownBlock ∧ some k_ ≠ (.slice Ao43 x10_4.length co43 : Value).ownBlock ∧ some k_ ≠ (.slice (some ad455) t434.length co28 : Value).ownBlock ∧ some k_ ≠ (u8 : Value).ownBlock) s_.2.1 t452) ∧ (Kd.R (Kd.int .u64) 22 w' w.heap.size (fun k_ => some k_ ≠ (s_.1 : Value).ownBlock ∧ some k_ ≠ (s_.2.1 : Value).ownBlock ∧ some k_ ≠ (.slice Ao43 x10_4.length co43 : Value).ownBlock ∧ some k_ ≠ (.slice (some ad455) t434.length co28 : Value).ownBlock ∧ some k_ ≠ (u8 : Value).ownBlock) s_.2.2 y456) ∧ (Kd.R (Kd.int .u64) 22 w' w.heap.size (fun k_ => some k_ ≠ (s_.1 : Value).ownBlock ∧ some k_ ≠ (s_.2.1 : Value).ownBlock ∧ some k_ ≠ (s_.2.2 : Value).ownBlock ∧ some k_ ≠ (.slice (some ad455) t434.length co28 : Value).ownBlock ∧ some k_ ≠ (u8 : Value).ownBlock) (.slice Ao43 x10_4.length co43) x10_4) ∧ (Kd.R (Kd.int .u64) 22 w' w.heap.size (fun k_ => some k_ ≠ (s_.1 : Value).ownBlock ∧ some k_ ≠ (s_.2.1 : Value).ownBlock ∧ some k_ ≠ (s_.2.2 : Value).ownBlock ∧ some k_ ≠ (.slice Ao43 x10_4.length co43 : Value).ownBlock ∧ some k_ ≠ (u8 : Value).ownBlock) (.slice (some ad455) t434.length co28) t434) ∧ (Kd.R (Kd.int .u64) 22 w' w.heap.size (fun k_ => some k_ ≠ (s_.1 : Value).ownBlock ∧ some k_ ≠ (s_.2.1 : Value).ownBlock ∧ some k_ ≠ (s_.2.2 : Value).ownBlock ∧ some k_ ≠ (.slice Ao43 x10_4.length co43 : Value).ownBlock ∧ some k_ ≠ (.slice (some ad455) t434.length co28 : Value).ownBlock) u8 x8_4) ∧ (Below w.heap.size w w')) ?_ ?_
                  rotate_left
                  ·
                   intro hCont
                   refine two_ (i := 1) (j := 7) (Ni := some 70) (Nj := some 76) (ba_ 10 123) (ba_ 10 249) rfl rfl rfl rfl (jCs HT_.out kr_) (by decide) (by decide) (fun K hK => ?_) (fun K hK => ?_)
                   ·
                    skip
                    refine Kd.qI (Kd.int .u64) _ 22 ?hg (N := 70) ?hd (xs := ([4294967296] : List Int)) (inner := [.int .u64 4294967296]) (ok := fun _ => True) (okp := fun _ => True) ?hr ?hp (fun _ hk => hk) trivial (Below.refl _ _) (Nat.le_refl _) (by simp) ?_; (case hd => rfl); (case hg => rfl); (case hr => exact gs_); (case hp => exact (Reps.one (show Kd.M (Kd.int .u64) _ _ _ 4294967296 [.int .u64 4294967296] from rfl) (Reps.none _ _)))
                    intro v450 w45 ho46 hb hg_ hnew_
                    have HS0_ := (hb.cell (World.block_lt_of_cell? _ _ (hHeld))).trans (hHeld)
                    clear hg_ hnew_
                    (first | rw [← Ny449.out] at ho46 | (simp only [Int.reduceToNat] at ho46; rw [← Ny449.out] at ho46))
                    have n0_ := re_ HO_7 ho46 hb
                    have n1_ := re_ HO_8 ho46 hb
                    have n2_ := re_ HO_10 ho46 hb
                    have n3_ := jA.mk (Kd.jU (Kd.jR (Kd.jR (Kd.jR ho46 (Kd.R_lt (rR_ HO_7))) (Kd.R_lt (rR_ HO_8))) (Kd.R_lt (rR_ HO_10))) (jB (bb_ HB)))
                    have n4_ := bs_ HB hb
                    clear HO_7
                    clear HO_8
                    clear HO_10
                    clear HB
                    have HO_7 := n0_
                    have HO_8 := n1_
                    have HO_10 := n2_
                    have HO451 := n3_
                    have HB := n4_
                    clear n0_ n1_ n2_ n3_ n4_
                    clear hb ho46
                    obtain ⟨Ao47, co47, eo47⟩ := Kd.jm HO451.out
                    (first | subst eo47 | (injection eo47 with f1_ f2_ f3_; have f4_ := f1_.symm; have f5_ := f3_.symm; clear f1_ f2_ f3_; subst f4_; subst f5_))
                    refine hK.out _ _ (HS0_) (fun hHeld => ?_)
                    clear hK K
                    refine qJ (a' := ?_) ?_ ?_
                    rotate_left
                    ·
                     show Act.put _ (some 70) _ = _
                     simp only [Act.put, ss_, zF, zW]
                     rfl
                    refine two_ (i := 2) (j := 7) (Ni := some 71) (Nj := some 76) (ba_ 10 127) (ba_ 10 251) rfl rfl rfl rfl (jCs HT_.out kr_) (by decide) (by decide) (fun K hK => ?_) (fun K hK => ?_)
                    ·
                     skip
                     refine jBr Try.func23 kr_ rfl #[.slice Ao43 x10_4.length co43, .slice Ao47 y449.length co47] (by rfl) rfl rfl (by (try simp only [List.map_toArray, List.map_cons, List.map_nil]); first | done | rfl | (simp only [List.length_drop, List.length_take]; rfl)) ?_
                     with_reducible refine (jE.calls k4 _ _ x10_4 _ _ y449 t452 _ ?side1 ?side2 ?side3 ?side4 A32.out).mono ?_
                     (case side1 => exact cc_ (Kd.jF HO_10.out).2.2)
                     (case side2 => exact (Kd.jF HO_10.out).2.1)
                     (case side3 => exact cc_ (Kd.jF HO451.out).2.2)
                     (case side4 => exact (Kd.jF HO451.out).2.1)
                     rintro e w48 ⟨v453, rfl, ho0, hb⟩
                     have HS0_ := (hb.cell (World.block_lt_of_cell? _ _ (hHeld))).trans (hHeld)
                     refine ⟨_, rfl, ?_⟩
                     have n0_ := re_ HO_7 ho0 hb
                     have n1_ := re_ HO_8 ho0 hb
                     have n2_ := re_ HO_10 ho0 hb
                     have n3_ := re_ HO451 ho0 hb
                     have n4_ := jA.mk (Kd.jU (Kd.jR (Kd.jR (Kd.jR (Kd.jR ho0 (Kd.R_lt (rR_ HO_7))) (Kd.R_lt (rR_ HO_8))) (Kd.R_lt (rR_ HO_10))) (Kd.R_lt (rR_ HO451))) (jB (bb_ HB)))
                     have n5_ := bs_ HB hb
                     clear HO_7
                     clear HO_8
                     clear HO_10
                     clear HO451
                     clear HB
                     have HO_7 := n0_
                     have HO_8 := n1_
                     have HO_10 := n2_
                     have HO451 := n3_
                     have HO454 := n4_
                     have HB := n5_
                     clear n0_ n1_ n2_ n3_ n4_ n5_
                     (try clear hb)
                     (try clear hb2)
                     (try clear hk)
                     (try clear hi)
                     (try clear ho0)
                     refine hK.out _ _ (HS0_) (fun hHeld => ?_)
                     clear hK K
                     refine qJ (a' := ?_) ?_ ?_
                     rotate_left
                     ·
                      show Act.put _ (some 71) _ = _
                      simp only [Act.put, ss_, zF, zW]
                      rfl
                     refine one_ (i := 7) (N := some 76) (ba_ 10 255) rfl rfl (ql HT_.out kr_) (by decide) (fun K hK => ?_)
                     refine Kd.qI (Kd.int .u64) _ 22 ?hg (N := 76) ?hd (xs := ([rd t434 x11_4] : List Int)) (inner := [.int .u64 (rd t434 x11_4)]) (ok := fun _ => True) (okp := fun _ => True) ?hr ?hp (fun _ hk => hk) trivial (Below.refl _ _) (Nat.le_refl _) (by simp) ?_; (case hd => rfl); (case hg => rfl); (case hr => exact gs_); (case hp => exact (Reps.one (show Kd.M (Kd.int .u64) _ _ _ (rd t434 x11_4) [.int .u64 (rd t434 x11_4)] from rfl) (Reps.none _ _)))
                     intro v457 w49 ho50 hb hg_ hnew_
                     have HS0_ := (hb.cell (World.block_lt_of_cell? _ _ (hHeld))).trans (hHeld)
                     clear hg_ hnew_
                     (first | rw [← Ny456.out] at ho50 | (simp only [Int.reduceToNat] at ho50; rw [← Ny456.out] at ho50))
                     have n0_ := re_ HO_7 ho50 hb
                     have n1_ := re_ HO_8 ho50 hb
                     have n2_ := re_ HO_10 ho50 hb
                     have n3_ := re_ HO451 ho50 hb
                     have n4_ := re_ HO454 ho50 hb
                     have n5_ := jA.mk (Kd.jU (Kd.jR (Kd.jR (Kd.jR (Kd.jR (Kd.jR ho50 (Kd.R_lt (rR_ HO_7))) (Kd.R_lt (rR_ HO_8))) (Kd.R_lt (rR_ HO_10))) (Kd.R_lt (rR_ HO451))) (Kd.R_lt (rR_ HO454))) (jB (bb_ HB)))
                     have n6_ := bs_ HB hb
                     clear HO_7
                     clear HO_8
                     clear HO_10
                     clear HO451
                     clear HO454
                     clear HB
                     have HO_7 := n0_
                     have HO_8 := n1_
                     have HO_10 := n2_
                     have HO451 := n3_
                     have HO454 := n4_
                     have HO458 := n5_
                     have HB := n6_
                     clear n0_ n1_ n2_ n3_ n4_ n5_ n6_
                     clear hb ho50
                     refine hK.out _ _ (HS0_) (fun hHeld => ?_)
                     clear hK K
                     refine qJ (a' := ?_) ?_ ?_
                     rotate_left
                     ·
                      show Act.put _ (some 76) _ = _
                      simp only [Act.put, ss_, zF, zW]
                      rfl
                     exact qJ (by simp only [jAl, Act.put, ss_]) (hCont (.slice Ao47 y449.length co47, v453, v457) _ ⟨hHeld, (by refine pR_ ?_; exact Kd.jk HO451.out (fun _ hk => ⟨hk.1.2, ⟨hk.2, ⟨hk.1.1.2, ⟨hk.1.1.1.1.2, hk.1.1.1.2⟩⟩⟩⟩)), (by refine pR_ ?_; exact Kd.jk HO454.out (fun _ hk => ⟨hk.1.2, ⟨hk.2, ⟨hk.1.1.2, ⟨hk.1.1.1.1.2, hk.1.1.1.2⟩⟩⟩⟩)), (by refine pR_ ?_; exact Kd.jk HO458.out (fun _ hk => ⟨hk.1.2, ⟨hk.2, ⟨hk.1.1.2, ⟨hk.1.1.1.1.2, hk.1.1.1.2⟩⟩⟩⟩)), (by refine pR_ ?_; exact Kd.jk HO_10.out (fun _ hk => ⟨hk.1.1.2, ⟨hk.1.2, ⟨hk.2, ⟨hk.1.1.1.1, hk.1.1.1.2⟩⟩⟩⟩)), (by refine pR_ ?_; exact Kd.jk HO_7.out (fun _ hk => ⟨hk.1.1.2, ⟨hk.1.2, ⟨hk.2, ⟨hk.1.1.1.2, hk.1.1.1.1⟩⟩⟩⟩)), (by refine pR_ ?_; exact Kd.jk HO_8.out (fun _ hk => ⟨hk.1.1.2, ⟨hk.1.2, ⟨hk.2, ⟨hk.1.1.1.2, hk.1.1.1.1⟩⟩⟩⟩)), (bb_ HB)⟩)
                    ·
                     skip
                     refine Kd.qI (Kd.int .u64) _ 22 ?hg (N := 76) ?hd (xs := ([rd t434 x11_4] : List Int)) (inner := [.int .u64 (rd t434 x11_4)]) (ok := fun _ => True) (okp := fun _ => True) ?hr ?hp (fun _ hk => hk) trivial (Below.refl _ _) (Nat.le_refl _) (by simp) ?_; (case hd => rfl); (case hg => rfl); (case hr => exact gs_); (case hp => exact (Reps.one (show Kd.M (Kd.int .u64) _ _ _ (rd t434 x11_4) [.int .u64 (rd t434 x11_4)] from rfl) (Reps.none _ _)))
                     intro v457 w47 ho48 hb hg_ hnew_
                     have HS0_ := (hb.cell (World.block_lt_of_cell? _ _ (hHeld))).trans (hHeld)
                     clear hg_ hnew_
                     (first | rw [← Ny456.out] at ho48 | (simp only [Int.reduceToNat] at ho48; rw [← Ny456.out] at ho48))
                     have n0_ := re_ HO_7 ho48 hb
                     have n1_ := re_ HO_8 ho48 hb
                     have n2_ := re_ HO_10 ho48 hb
                     have n3_ := re_ HO451 ho48 hb
                     have n4_ := jA.mk (Kd.jU (Kd.jR (Kd.jR (Kd.jR (Kd.jR ho48 (Kd.R_lt (rR_ HO_7))) (Kd.R_lt (rR_ HO_8))) (Kd.R_lt (rR_ HO_10))) (Kd.R_lt (rR_ HO451))) (jB (bb_ HB)))
                     have n5_ := bs_ HB hb
                     clear HO_7
                     clear HO_8
                     clear HO_10
                     clear HO451
                     clear HB
                     have HO_7 := n0_
                     have HO_8 := n1_
                     have HO_10 := n2_
                     have HO451 := n3_
                     have HO458 := n4_
                     have HB := n5_
                     clear n0_ n1_ n2_ n3_ n4_ n5_
                     clear hb ho48
                     obtain ⟨Ao49, co49, eo49⟩ := Kd.jm HO451.out
                     (first | subst eo49 | (injection eo49 with f1_ f2_ f3_; have f4_ := f1_.symm; have f5_ := f3_.symm; clear f1_ f2_ f3_; subst f4_; subst f5_))
                     refine hK.out _ _ (HS0_) (fun hHeld => ?_)
                     clear hK K
                     refine qJ (a' := ?_) ?_ ?_
                     rotate_left
                     ·
                      show Act.put _ (some 76) _ = _
                      simp only [Act.put, ss_, zF, zW]
                      rfl
                     refine one_ (i := 2) (N := some 71) (ba_ 10 255) rfl rfl (ql HT_.out kr_) (by decide) (fun K hK => ?_)
                     refine jBr Try.func23 kr_ rfl #[.slice Ao43 x10_4.length co43, .slice Ao49 y449.length co49] (by rfl) rfl rfl (by (try simp only [List.map_toArray, List.map_cons, List.map_nil]); first | done | rfl | (simp only [List.length_drop, List.length_take]; rfl)) ?_
                     with_reducible refine (jE.calls k4 _ _ x10_4 _ _ y449 t452 _ ?side1 ?side2 ?side3 ?side4 A32.out).mono ?_
                     (case side1 => exact cc_ (Kd.jF HO_10.out).2.2)
                     (case side2 => exact (Kd.jF HO_10.out).2.1)
                     (case side3 => exact cc_ (Kd.jF HO451.out).2.2)
                     (case side4 => exact (Kd.jF HO451.out).2.1)
                     rintro e w50 ⟨v453, rfl, ho0, hb⟩
                     have HS0_ := (hb.cell (World.block_lt_of_cell? _ _ (hHeld))).trans (hHeld)
                     refine ⟨_, rfl, ?_⟩
                     have n0_ := re_ HO_7 ho0 hb
                     have n1_ := re_ HO_8 ho0 hb
                     have n2_ := re_ HO_10 ho0 hb
                     have n3_ := re_ HO451 ho0 hb
                     have n4_ := re_ HO458 ho0 hb
                     have n5_ := jA.mk (Kd.jU (Kd.jR (Kd.jR (Kd.jR (Kd.jR (Kd.jR ho0 (Kd.R_lt (rR_ HO_7))) (Kd.R_lt (rR_ HO_8))) (Kd.R_lt (rR_ HO_10))) (Kd.R_lt (rR_ HO451))) (Kd.R_lt (rR_ HO458))) (jB (bb_ HB)))
                     have n6_ := bs_ HB hb
                     clear HO_7
                     clear HO_8
                     clear HO_10
                     clear HO451
                     clear HO458
                     clear HB
                     have HO_7 := n0_
                     have HO_8 := n1_
                     have HO_10 := n2_
                     have HO451 := n3_
                     have HO458 := n4_
                     have HO454 := n5_
                     have HB := n6_
                     clear n0_ n1_ n2_ n3_ n4_ n5_ n6_
                     (try clear hb)
                     (try clear hb2)
                     (try clear hk)
                     (try clear hi)
                     (try clear ho0)
                     refine hK.out _ _ (HS0_) (fun hHeld => ?_)
                     clear hK K
                     refine qJ (a' := ?_) ?_ ?_
                     rotate_left
                     ·
                      show Act.put _ (some 71) _ = _
                      simp only [Act.put, ss_, zF, zW]
                      rfl
                     exact qJ (by simp only [jAl, Act.put, ss_]) (hCont (.slice Ao49 y449.length co49, v453, v457) _ ⟨hHeld, (by refine pR_ ?_; exact Kd.jk HO451.out (fun _ hk => ⟨hk.2, ⟨hk.1.2, ⟨hk.1.1.2, ⟨hk.1.1.1.1.2, hk.1.1.1.2⟩⟩⟩⟩)), (by refine pR_ ?_; exact Kd.jk HO454.out (fun _ hk => ⟨hk.1.2, ⟨hk.2, ⟨hk.1.1.2, ⟨hk.1.1.1.1.2, hk.1.1.1.2⟩⟩⟩⟩)), (by refine pR_ ?_; exact Kd.jk HO458.out (fun _ hk => ⟨hk.1.2, ⟨hk.2, ⟨hk.1.1.2, ⟨hk.1.1.1.1.2, hk.1.1.1.2⟩⟩⟩⟩)), (by refine pR_ ?_; exact Kd.jk HO_10.out (fun _ hk => ⟨hk.1.1.2, ⟨hk.2, ⟨hk.1.2, ⟨hk.1.1.1.1, hk.1.1.1.2⟩⟩⟩⟩)), (by refine pR_ ?_; exact Kd.jk HO_7.out (fun _ hk => ⟨hk.1.1.2, ⟨hk.2, ⟨hk.1.2, ⟨hk.1.1.1.2, hk.1.1.1.1⟩⟩⟩⟩)), (by refine pR_ ?_; exact Kd.jk HO_8.out (fun _ hk => ⟨hk.1.1.2, ⟨hk.2, ⟨hk.1.2, ⟨hk.1.1.1.2, hk.1.1.1.1⟩⟩⟩⟩)), (bb_ HB)⟩)
                   ·
                    skip
                    refine Kd.qI (Kd.int .u64) _ 22 ?hg (N := 76) ?hd (xs := ([rd t434 x11_4] : List Int)) (inner := [.int .u64 (rd t434 x11_4)]) (ok := fun _ => True) (okp := fun _ => True) ?hr ?hp (fun _ hk => hk) trivial (Below.refl _ _) (Nat.le_refl _) (by simp) ?_; (case hd => rfl); (case hg => rfl); (case hr => exact gs_); (case hp => exact (Reps.one (show Kd.M (Kd.int .u64) _ _ _ (rd t434 x11_4) [.int .u64 (rd t434 x11_4)] from rfl) (Reps.none _ _)))
                    intro v457 w45 ho46 hb hg_ hnew_
                    have HS0_ := (hb.cell (World.block_lt_of_cell? _ _ (hHeld))).trans (hHeld)
                    clear hg_ hnew_
                    (first | rw [← Ny456.out] at ho46 | (simp only [Int.reduceToNat] at ho46; rw [← Ny456.out] at ho46))
                    have n0_ := re_ HO_7 ho46 hb
                    have n1_ := re_ HO_8 ho46 hb
                    have n2_ := re_ HO_10 ho46 hb
                    have n3_ := jA.mk (Kd.jU (Kd.jR (Kd.jR (Kd.jR ho46 (Kd.R_lt (rR_ HO_7))) (Kd.R_lt (rR_ HO_8))) (Kd.R_lt (rR_ HO_10))) (jB (bb_ HB)))
                    have n4_ := bs_ HB hb
                    clear HO_7
                    clear HO_8
                    clear HO_10
                    clear HB
                    have HO_7 := n0_
                    have HO_8 := n1_
                    have HO_10 := n2_
                    have HO458 := n3_
                    have HB := n4_
                    clear n0_ n1_ n2_ n3_ n4_
                    clear hb ho46
                    refine hK.out _ _ (HS0_) (fun hHeld => ?_)
                    clear hK K
                    refine qJ (a' := ?_) ?_ ?_
                    rotate_left
                    ·
                     show Act.put _ (some 76) _ = _
                     simp only [Act.put, ss_, zF, zW]
                     rfl
                    refine one_ (i := 1) (N := some 70) (ba_ 10 251) rfl rfl (ql HT_.out kr_) (by decide) (fun K hK => ?_)
                    refine Kd.qI (Kd.int .u64) _ 22 ?hg (N := 70) ?hd (xs := ([4294967296] : List Int)) (inner := [.int .u64 4294967296]) (ok := fun _ => True) (okp := fun _ => True) ?hr ?hp (fun _ hk => hk) trivial (Below.refl _ _) (Nat.le_refl _) (by simp) ?_; (case hd => rfl); (case hg => rfl); (case hr => exact gs_); (case hp => exact (Reps.one (show Kd.M (Kd.int .u64) _ _ _ 4294967296 [.int .u64 4294967296] from rfl) (Reps.none _ _)))
                    intro v450 w47 ho48 hb hg_ hnew_
                    have HS0_ := (hb.cell (World.block_lt_of_cell? _ _ (hHeld))).trans (hHeld)
                    clear hg_ hnew_
                    (first | rw [← Ny449.out] at ho48 | (simp only [Int.reduceToNat] at ho48; rw [← Ny449.out] at ho48))
                    have n0_ := re_ HO_7 ho48 hb
                    have n1_ := re_ HO_8 ho48 hb
                    have n2_ := re_ HO_10 ho48 hb
                    have n3_ := re_ HO458 ho48 hb
                    have n4_ := jA.mk (Kd.jU (Kd.jR (Kd.jR (Kd.jR (Kd.jR ho48 (Kd.R_lt (rR_ HO_7))) (Kd.R_lt (rR_ HO_8))) (Kd.R_lt (rR_ HO_10))) (Kd.R_lt (rR_ HO458))) (jB (bb_ HB)))
                    have n5_ := bs_ HB hb
                    clear HO_7
                    clear HO_8
                    clear HO_10
                    clear HO458
                    clear HB
                    have HO_7 := n0_
                    have HO_8 := n1_
                    have HO_10 := n2_
                    have HO458 := n3_
                    have HO451 := n4_
                    have HB := n5_
                    clear n0_ n1_ n2_ n3_ n4_ n5_
                    clear hb ho48
                    obtain ⟨Ao49, co49, eo49⟩ := Kd.jm HO451.out
                    (first | subst eo49 | (injection eo49 with f1_ f2_ f3_; have f4_ := f1_.symm; have f5_ := f3_.symm; clear f1_ f2_ f3_; subst f4_; subst f5_))
                    refine hK.out _ _ (HS0_) (fun hHeld => ?_)
                    clear hK K
                    refine qJ (a' := ?_) ?_ ?_
                    rotate_left
                    ·
                     show Act.put _ (some 70) _ = _
                     simp only [Act.put, ss_, zF, zW]
                     rfl
                    refine one_ (i := 2) (N := some 71) (ba_ 10 255) rfl rfl (ql HT_.out kr_) (by decide) (fun K hK => ?_)
                    refine jBr Try.func23 kr_ rfl #[.slice Ao43 x10_4.length co43, .slice Ao49 y449.length co49] (by rfl) rfl rfl (by (try simp only [List.map_toArray, List.map_cons, List.map_nil]); first | done | rfl | (simp only [List.length_drop, List.length_take]; rfl)) ?_
                    with_reducible refine (jE.calls k4 _ _ x10_4 _ _ y449 t452 _ ?side1 ?side2 ?side3 ?side4 A32.out).mono ?_
                    (case side1 => exact cc_ (Kd.jF HO_10.out).2.2)
                    (case side2 => exact (Kd.jF HO_10.out).2.1)
                    (case side3 => exact cc_ (Kd.jF HO451.out).2.2)
                    (case side4 => exact (Kd.jF HO451.out).2.1)
                    rintro e w50 ⟨v453, rfl, ho0, hb⟩
                    have HS0_ := (hb.cell (World.block_lt_of_cell? _ _ (hHeld))).trans (hHeld)
                    refine ⟨_, rfl, ?_⟩
                    have n0_ := re_ HO_7 ho0 hb
                    have n1_ := re_ HO_8 ho0 hb
                    have n2_ := re_ HO_10 ho0 hb
                    have n3_ := re_ HO458 ho0 hb
                    have n4_ := re_ HO451 ho0 hb
                    have n5_ := jA.mk (Kd.jU (Kd.jR (Kd.jR (Kd.jR (Kd.jR (Kd.jR ho0 (Kd.R_lt (rR_ HO_7))) (Kd.R_lt (rR_ HO_8))) (Kd.R_lt (rR_ HO_10))) (Kd.R_lt (rR_ HO458))) (Kd.R_lt (rR_ HO451))) (jB (bb_ HB)))
                    have n6_ := bs_ HB hb
                    clear HO_7
                    clear HO_8
                    clear HO_10
                    clear HO458
                    clear HO451
                    clear HB
                    have HO_7 := n0_
                    have HO_8 := n1_
                    have HO_10 := n2_
                    have HO458 := n3_
                    have HO451 := n4_
                    have HO454 := n5_
                    have HB := n6_
                    clear n0_ n1_ n2_ n3_ n4_ n5_ n6_
                    (try clear hb)
                    (try clear hb2)
                    (try clear hk)
                    (try clear hi)
                    (try clear ho0)
                    refine hK.out _ _ (HS0_) (fun hHeld => ?_)
                    clear hK K
                    refine qJ (a' := ?_) ?_ ?_
                    rotate_left
                    ·
                     show Act.put _ (some 71) _ = _
                     simp only [Act.put, ss_, zF, zW]
                     rfl
                    exact qJ (by simp only [jAl, Act.put, ss_]) (hCont (.slice Ao49 y449.length co49, v453, v457) _ ⟨hHeld, (by refine pR_ ?_; exact Kd.jk HO451.out (fun _ hk => ⟨hk.2, ⟨hk.1.2, ⟨hk.1.1.2, ⟨hk.1.1.1.1.2, hk.1.1.1.2⟩⟩⟩⟩)), (by refine pR_ ?_; exact Kd.jk HO454.out (fun _ hk => ⟨hk.2, ⟨hk.1.2, ⟨hk.1.1.2, ⟨hk.1.1.1.1.2, hk.1.1.1.2⟩⟩⟩⟩)), (by refine pR_ ?_; exact Kd.jk HO458.out (fun _ hk => ⟨hk.1.2, ⟨hk.2, ⟨hk.1.1.2, ⟨hk.1.1.1.1.2, hk.1.1.1.2⟩⟩⟩⟩)), (by refine pR_ ?_; exact Kd.jk HO_10.out (fun _ hk => ⟨hk.1.2, ⟨hk.2, ⟨hk.1.1.2, ⟨hk.1.1.1.1, hk.1.1.1.2⟩⟩⟩⟩)), (by refine pR_ ?_; exact Kd.jk HO_7.out (fun _ hk => ⟨hk.1.2, ⟨hk.2, ⟨hk.1.1.2, ⟨hk.1.1.1.2, hk.1.1.1.1⟩⟩⟩⟩)), (by refine pR_ ?_; exact Kd.jk HO_8.out (fun _ hk => ⟨hk.1.2, ⟨hk.2, ⟨hk.1.1.2, ⟨hk.1.1.1.2, hk.1.1.1.1⟩⟩⟩⟩)), (bb_ HB)⟩)
                  rintro ⟨v450, v453, v457⟩ w51 ⟨hS_, h0_, h1_, h2_, h3_, h4_, h5_, h6_⟩
                  have n0_ : jA (Kd.R (Kd.int .u64) 22 w51 w.heap.size (fun k_ => some k_ ≠ (v453 : Value).ownBlock ∧ some k_ ≠ (v457 : Value).ownBlock ∧ some k_ ≠ (.slice Ao43 x10_4.length co43 : Value).ownBlock ∧ some k_ ≠ (.slice (some ad455) t434.length co28 : Value).ownBlock ∧ some k_ ≠ (u8 : Value).ownBlock) v450 y449) := ⟨h0_⟩
                  have n1_ : jA (Kd.R (Kd.int .u64) 22 w51 w.heap.size (fun k_ => some k_ ≠ (v450 : Value).ownBlock ∧ some k_ ≠ (v457 : Value).ownBlock ∧ some k_ ≠ (.slice Ao43 x10_4.length co43 : Value).ownBlock ∧ some k_ ≠ (.slice (some ad455) t434.length co28 : Value).ownBlock ∧ some k_ ≠ (u8 : Value).ownBlock) v453 t452) := ⟨h1_⟩
                  have n2_ : jA (Kd.R (Kd.int .u64) 22 w51 w.heap.size (fun k_ => some k_ ≠ (v450 : Value).ownBlock ∧ some k_ ≠ (v453 : Value).ownBlock ∧ some k_ ≠ (.slice Ao43 x10_4.length co43 : Value).ownBlock ∧ some k_ ≠ (.slice (some ad455) t434.length co28 : Value).ownBlock ∧ some k_ ≠ (u8 : Value).ownBlock) v457 y456) := ⟨h2_⟩
                  have n3_ : jA (Kd.R (Kd.int .u64) 22 w51 w.heap.size (fun k_ => some k_ ≠ (v450 : Value).ownBlock ∧ some k_ ≠ (v453 : Value).ownBlock ∧ some k_ ≠ (v457 : Value).ownBlock ∧ some k_ ≠ (.slice (some ad455) t434.length co28 : Value).ownBlock ∧ some k_ ≠ (u8 : Value).ownBlock) (.slice Ao43 x10_4.length co43) x10_4) := ⟨h3_⟩
                  have n4_ : jA (Kd.R (Kd.int .u64) 22 w51 w.heap.size (fun k_ => some k_ ≠ (v450 : Value).ownBlock ∧ some k_ ≠ (v453 : Value).ownBlock ∧ some k_ ≠ (v457 : Value).ownBlock ∧ some k_ ≠ (.slice Ao43 x10_4.length co43 : Value).ownBlock ∧ some k_ ≠ (u8 : Value).ownBlock) (.slice (some ad455) t434.length co28) t434) := ⟨h4_⟩
                  have n5_ : jA (Kd.R (Kd.int .u64) 22 w51 w.heap.size (fun k_ => some k_ ≠ (v450 : Value).ownBlock ∧ some k_ ≠ (v453 : Value).ownBlock ∧ some k_ ≠ (v457 : Value).ownBlock ∧ some k_ ≠ (.slice Ao43 x10_4.length co43 : Value).ownBlock ∧ some k_ ≠ (.slice (some ad455) t434.length co28 : Value).ownBlock) u8 x8_4) := ⟨h5_⟩
                  have n6_ : jA (Below w.heap.size w w51) := ⟨h6_⟩
                  clear HO_7
                  clear HO_8
                  clear HO_10
                  clear HB
                  clear h0_ h1_ h2_ h3_ h4_ h5_ h6_
                  have HO451 := n0_
                  have HO454 := n1_
                  have HO458 := n2_
                  have HO_10 := n3_
                  have HO_7 := n4_
                  have HO_8 := n5_
                  have HB := n6_
                  clear n0_ n1_ n2_ n3_ n4_ n5_ n6_
                  have hHeld : w51.cell? (ad455.add (x11_4).toNat) = some (.int .u64 (rd t434 x11_4)) := hS_
                  obtain ⟨Ao52, co52, eo52⟩ := Kd.jm HO454.out
                  (first | subst eo52 | (injection eo52 with f1_ f2_ f3_; have f4_ := f1_.symm; have f5_ := f3_.symm; clear f1_ f2_ f3_; subst f4_; subst f5_))
                  obtain ⟨Ao53, co53, eo53⟩ := Kd.jm HO458.out
                  (first | subst eo53 | (injection eo53 with f1_ f2_ f3_; have f4_ := f1_.symm; have f5_ := f3_.symm; clear f1_ f2_ f3_; subst f4_; subst f5_))
                  refine qJ (a' := ?_) ?_ ?_
                  rotate_left
                  ·
                   simp only [jAl, Act.put, ss_]
                   rfl
                  refine one_ (i := 8) (N := some 77) (ba_ 10 511) rfl rfl (ql HT_.out kr_) (by decide) (fun K hK => ?_)
                  refine jBr Try.func102 kr_ rfl #[.slice Ao52 t452.length co52, .slice Ao53 y456.length co53] (by rfl) rfl rfl (by (try simp only [List.map_toArray, List.map_cons, List.map_nil]); first | done | rfl | (simp only [List.length_drop, List.length_take]; rfl)) ?_
                  with_reducible refine (jL.calls k4 _ _ t452 _ _ y456 t459 _ ?side1 ?side2 ?side3 ?side4 A35.out).mono ?_
                  (case side1 => exact cc_ (Kd.jF HO454.out).2.2)
                  (case side2 => exact (Kd.jF HO454.out).2.1)
                  (case side3 => exact cc_ (Kd.jF HO458.out).2.2)
                  (case side4 => exact (Kd.jF HO458.out).2.1)
                  rintro e w54 ⟨v460, rfl, ho0, hb⟩
                  have HS0_ := (hb.cell (World.block_lt_of_cell? _ _ (hHeld))).trans (hHeld)
                  refine ⟨_, rfl, ?_⟩
                  have n0_ := re_ HO_7 ho0 hb
                  have n1_ := re_ HO_8 ho0 hb
                  have n2_ := re_ HO_10 ho0 hb
                  have n3_ := re_ HO451 ho0 hb
                  have n4_ := re_ HO454 ho0 hb
                  have n5_ := re_ HO458 ho0 hb
                  have n6_ := jA.mk (Kd.jU (Kd.jR (Kd.jR (Kd.jR (Kd.jR (Kd.jR (Kd.jR ho0 (Kd.R_lt (rR_ HO_7))) (Kd.R_lt (rR_ HO_8))) (Kd.R_lt (rR_ HO_10))) (Kd.R_lt (rR_ HO451))) (Kd.R_lt (rR_ HO454))) (Kd.R_lt (rR_ HO458))) (jB (bb_ HB)))
                  have n7_ := bs_ HB hb
                  clear HO_7
                  clear HO_8
                  clear HO_10
                  clear HO451
                  clear HO454
                  clear HO458
                  clear HB
                  have HO_7 := n0_
                  have HO_8 := n1_
                  have HO_10 := n2_
                  have HO451 := n3_
                  have HO454 := n4_
                  have HO458 := n5_
                  have HO461 := n6_
                  have HB := n7_
                  clear n0_ n1_ n2_ n3_ n4_ n5_ n6_ n7_
                  (try clear hb)
                  (try clear hb2)
                  (try clear hk)
                  (try clear hi)
                  (try clear ho0)
                  refine hK.out _ _ (HS0_) (fun hHeld => ?_)
                  clear hK K
                  refine qJ (a' := ?_) ?_ ?_
                  rotate_left
                  ·
                   show Act.put _ (some 77) _ = _
                   simp only [Act.put, ss_, zF, zW]
                   rfl
                  refine pu_ 9 (some 10) (ba_ 10 1023) (vO HT_.out kr_) ?_
                  refine jBZ (jBT HT_.out kr_) ?_
                  obtain ⟨Ao55, co55, eo55⟩ := Kd.jm HO461.out
                  subst eo55
                  try go_wp2_with (first | ((with_reducible refine jG (f := 103) rfl ?_); refine jo (some 80) rfl rfl Try.func103 kr_ rfl #[.slice Ao55 t459.length co55, .slice A1 l1.length c1] rfl mt_ ?_; (with_reducible refine (jO.calls k4 _ _ t459 _ _ l1 t462 _ ?side1 ?side2 ?side3 ?side4 A36.out).mono ?_); (case side1 => exact cc_ (Kd.jF HO461.out).2.2); (case side2 => exact (Kd.jF HO461.out).2.1); (case side3 => exact cc_ (Kd.jq HR1.out HB.out)); (case side4 => exact HC1.out); rintro e w56 ⟨rfl, hb⟩; refine ⟨_, rfl, ?_⟩; replace HO_7 := ro_ HO_7 hb; replace HO_8 := ro_ HO_8 hb; replace HO_10 := ro_ HO_10 hb; replace HO451 := ro_ HO451 hb; replace HO454 := ro_ HO454 hb; replace HO458 := ro_ HO458 hb; replace HO461 := ro_ HO461 hb; replace HB := bs_ HB hb) | ((with_reducible refine jG (f := 104) rfl ?_); refine jo (some 86) rfl rfl Try.func104 kr_ rfl #[.slice Ao55 t459.length co55, .slice A1 l1.length c1] rfl mt_ ?_; (with_reducible refine (jW.calls k4 _ _ t459 _ _ l1 t463 _ ?side1 ?side2 ?side3 ?side4 A38.out).mono ?_); (case side1 => exact cc_ (Kd.jF HO461.out).2.2); (case side2 => exact (Kd.jF HO461.out).2.1); (case side3 => exact cc_ (Kd.jq HR1.out HB.out)); (case side4 => exact HC1.out); rintro e w57 ⟨rfl, hb⟩; refine ⟨_, rfl, ?_⟩; replace HO_7 := ro_ HO_7 hb; replace HO_8 := ro_ HO_8 hb; replace HO_10 := ro_ HO_10 hb; replace HO451 := ro_ HO451 hb; replace HO454 := ro_ HO454 hb; replace HO458 := ro_ HO458 hb; replace HO461 := ro_ HO461 hb; replace HB := bs_ HB hb; have p40 : 0 ≤ (x11_4 : Int) := of_decide_eq_true am_; have q40 : (x11_4 : Int) < ((x8_4.length : Int) : Int) := of_decide_eq_true am_; obtain ⟨go40, co40, eo40, gb40, gl40, cl40, HG40⟩ := Kd.jAA HO_8.out (by omega); (first | cases eo40 | (injection eo40 with ea_ en_ ec_; (first | subst ea_ | (injection ea_ with ea_; subst ea_)); subst ec_; clear en_)); have GB40 := jA.mk gb40; have GG40 := jA.mk HG40; clear gb40 gl40 HG40; obtain ⟨hx40_0, hf40_0⟩ := Kd.zJ 0 HO_8.out (x11_4 : Int) p40 q40; replace p40 := eq_true p40; replace q40 := eq_true q40; have n_ := jA.mk (Kd.jk (ok' := (fun k_ => some k_ ≠ (.slice (some ad455) t434.length co28 : Value).ownBlock ∧ some k_ ≠ (.slice Ao43 x10_4.length co43 : Value).ownBlock ∧ some k_ ≠ (v450 : Value).ownBlock ∧ some k_ ≠ (.slice Ao52 t452.length co52 : Value).ownBlock ∧ some k_ ≠ (.slice Ao53 y456.length co53 : Value).ownBlock ∧ some k_ ≠ (.slice Ao55 t459.length co55 : Value).ownBlock)) HO_8.out (fun k_ hk => ⟨hk.1.2.2.2.2, ⟨hk.1.2.2.2.1, ⟨hk.1.1, ⟨hk.1.2.1, ⟨hk.1.2.2.1, hk.2⟩⟩⟩⟩⟩)); clear HO_8; have HO_8 := n_; clear n_; obtain ⟨hy58_, hz58_⟩ := Kd.zJ 0 HO_8.out (x11_4 : Int) (of_decide_eq_true am_) (of_decide_eq_true am_); have HP58 := Kd.qz HO_8.out (x11_4 : Int) t463) | ((with_reducible refine qD (t := 22) (p := 87) rfl ?_); refine zm (t := 22) (p := 87) (v := ?vo_w59) (w1 := (w57.setCell ⟨go40, (x11_4 : Int).toNat, none⟩ (.int .u64 t463))) ?hg ?ho ?hn ?hr ?_; (case ho => rfl); (case hg => rfl); (case hn => rfl); (case hr => exact gs_); intro w59 hw; have hg : w57.grownBy w59 (some go40) := (by rw [hw]; exact HP58.2); have hp_ : Kd.R (Kd.int .u64) 22 w59 w.heap.size (fun k_ => some k_ ≠ (.slice (some ad455) t434.length co28 : Value).ownBlock ∧ some k_ ≠ (.slice Ao43 x10_4.length co43 : Value).ownBlock ∧ some k_ ≠ (v450 : Value).ownBlock ∧ some k_ ≠ (.slice Ao52 t452.length co52 : Value).ownBlock ∧ some k_ ≠ (.slice Ao53 y456.length co53 : Value).ownBlock ∧ some k_ ≠ (.slice Ao55 t459.length co55 : Value).ownBlock) (.slice (some ⟨go40, 0, none⟩) x8_4.length co40) y464 := (by rw [hw, Ny464.out]; exact HP58.1); clear HP58; replace HO_7 := jA.mk (Kd.zP (v := (.slice (some ⟨go40, 0, none⟩) x8_4.length co40)) (v1 := (.slice (some ⟨go40, 0, none⟩) x8_4.length co40)) (ok := (fun k_ => some k_ ≠ (.slice Ao43 x10_4.length co43 : Value).ownBlock ∧ some k_ ≠ (v450 : Value).ownBlock ∧ some k_ ≠ (.slice Ao52 t452.length co52 : Value).ownBlock ∧ some k_ ≠ (.slice Ao53 y456.length co53 : Value).ownBlock ∧ some k_ ≠ (.slice Ao55 t459.length co55 : Value).ownBlock)) (by refine pR_ ?_; exact Kd.jk HO_7.out (fun _ hk => ⟨⟨hk.1.2.2.2.1, ⟨hk.1.1, ⟨hk.1.2.1, ⟨hk.1.2.2.1, hk.2⟩⟩⟩⟩, hk.1.2.2.2.2⟩)) hg (.inl rfl)); replace HO_8 := jA.mk (hp_); replace HO_10 := jA.mk (Kd.zP (v := (.slice (some ⟨go40, 0, none⟩) x8_4.length co40)) (v1 := (.slice (some ⟨go40, 0, none⟩) x8_4.length co40)) (ok := (fun k_ => some k_ ≠ (.slice (some ad455) t434.length co28 : Value).ownBlock ∧ some k_ ≠ (v450 : Value).ownBlock ∧ some k_ ≠ (.slice Ao52 t452.length co52 : Value).ownBlock ∧ some k_ ≠ (.slice Ao53 y456.length co53 : Value).ownBlock ∧ some k_ ≠ (.slice Ao55 t459.length co55 : Value).ownBlock)) (by refine pR_ ?_; exact Kd.jk HO_10.out (fun _ hk => ⟨⟨hk.1.2.2.2.1, ⟨hk.1.1, ⟨hk.1.2.1, ⟨hk.1.2.2.1, hk.2⟩⟩⟩⟩, hk.1.2.2.2.2⟩)) hg (.inl rfl)); replace HO451 := jA.mk (Kd.zP (v := (.slice (some ⟨go40, 0, none⟩) x8_4.length co40)) (v1 := (.slice (some ⟨go40, 0, none⟩) x8_4.length co40)) (ok := (fun k_ => some k_ ≠ (.slice (some ad455) t434.length co28 : Value).ownBlock ∧ some k_ ≠ (.slice Ao43 x10_4.length co43 : Value).ownBlock ∧ some k_ ≠ (.slice Ao52 t452.length co52 : Value).ownBlock ∧ some k_ ≠ (.slice Ao53 y456.length co53 : Value).ownBlock ∧ some k_ ≠ (.slice Ao55 t459.length co55 : Value).ownBlock)) (by refine pR_ ?_; exact Kd.jk HO451.out (fun _ hk => ⟨⟨hk.1.2.2.2.1, ⟨hk.1.2.2.1, ⟨hk.1.1, ⟨hk.1.2.1, hk.2⟩⟩⟩⟩, hk.1.2.2.2.2⟩)) hg (.inl rfl)); replace HO454 := jA.mk (Kd.zP (v := (.slice (some ⟨go40, 0, none⟩) x8_4.length co40)) (v1 := (.slice (some ⟨go40, 0, none⟩) x8_4.length co40)) (ok := (fun k_ => some k_ ≠ (.slice (some ad455) t434.length co28 : Value).ownBlock ∧ some k_ ≠ (.slice Ao43 x10_4.length co43 : Value).ownBlock ∧ some k_ ≠ (v450 : Value).ownBlock ∧ some k_ ≠ (.slice Ao53 y456.length co53 : Value).ownBlock ∧ some k_ ≠ (.slice Ao55 t459.length co55 : Value).ownBlock)) (by refine pR_ ?_; exact Kd.jk HO454.out (fun _ hk => ⟨⟨hk.1.2.2.2.1, ⟨hk.1.2.2.1, ⟨hk.1.1, ⟨hk.1.2.1, hk.2⟩⟩⟩⟩, hk.1.2.2.2.2⟩)) hg (.inl rfl)); replace HO458 := jA.mk (Kd.zP (v := (.slice (some ⟨go40, 0, none⟩) x8_4.length co40)) (v1 := (.slice (some ⟨go40, 0, none⟩) x8_4.length co40)) (ok := (fun k_ => some k_ ≠ (.slice (some ad455) t434.length co28 : Value).ownBlock ∧ some k_ ≠ (.slice Ao43 x10_4.length co43 : Value).ownBlock ∧ some k_ ≠ (v450 : Value).ownBlock ∧ some k_ ≠ (.slice Ao52 t452.length co52 : Value).ownBlock ∧ some k_ ≠ (.slice Ao55 t459.length co55 : Value).ownBlock)) (by refine pR_ ?_; exact Kd.jk HO458.out (fun _ hk => ⟨⟨hk.1.2.2.2.1, ⟨hk.1.2.2.1, ⟨hk.1.1, ⟨hk.1.2.1, hk.2⟩⟩⟩⟩, hk.1.2.2.2.2⟩)) hg (.inl rfl)); replace HO461 := jA.mk (Kd.zP (v := (.slice (some ⟨go40, 0, none⟩) x8_4.length co40)) (v1 := (.slice (some ⟨go40, 0, none⟩) x8_4.length co40)) (ok := (fun k_ => some k_ ≠ (.slice (some ad455) t434.length co28 : Value).ownBlock ∧ some k_ ≠ (.slice Ao43 x10_4.length co43 : Value).ownBlock ∧ some k_ ≠ (v450 : Value).ownBlock ∧ some k_ ≠ (.slice Ao52 t452.length co52 : Value).ownBlock ∧ some k_ ≠ (.slice Ao53 y456.length co53 : Value).ownBlock)) (by refine pR_ ?_; exact Kd.jk HO461.out (fun _ hk => ⟨⟨hk.1.1.1.1.1.2, ⟨hk.1.1.1.2, ⟨hk.1.1.2, ⟨hk.1.2, hk.2⟩⟩⟩⟩, hk.1.1.1.1.2⟩)) hg (.inl rfl)); replace HB := jA.mk ((by rw [hw]; exact zI (HB.out) GB40.out : Below w.heap.size w w59)); clear hg hw hp_; have p465 : 0 ≤ (x11_4 : Int) := of_decide_eq_true am_; have q465 : x11_4 < (y464.length : Int) := (by have h_ : (x11_4 : Int) < ((x8_4.length : Int) : Int) := of_decide_eq_true am_; first | (have e_ := (Kd.jF HO_8.out).1; omega) | simpa only [Ny464.out, List.length_set] using h_); have ql465 : ((x11_4 : Int) < ((x8_4.length : Int) : Int)) = True := eq_true (of_decide_eq_true am_); obtain ⟨ad465, e465, hx465_0⟩ := Kd.zD (Kd.jF HO_8.out).2.2 x11_4 p465 q465; obtain rfl : (⟨go40, 0, none⟩ : Addr) = ad465 := (by injection e465); (first | simp only [add_plain] at hx465_0 | simp only [jHG] at hx465_0 | simp only [Addr.add, Nat.zero_add] at hx465_0 | skip); replace p465 := eq_true p465; replace q465 := eq_true q465) | ((with_reducible refine jr (N := 95) rfl ?_); (try (refine vE (by rfl) ?_; dsimp only)); refine Kd.jAN (Kd.int .u64) _ 22 ?hg (N := 95) ?hd (xs := ([rd y464 x11_4] : List Int)) (inner := [.int .u64 (rd y464 x11_4)]) (ok := fun _ => True) (okp := fun _ => True) ?hr ?hp (fun _ hk => hk) trivial (Below.refl _ _) (Nat.le_refl _) (by simp) ?_; (case hd => rfl); (case hg => rfl); (case hr => exact gs_); (case hp => exact (Reps.one (show Kd.M (Kd.int .u64) _ _ _ (rd y464 x11_4) [.int .u64 (rd y464 x11_4)] from rfl) (Reps.none _ _))); intro v467 w60 ho61 hb hg_ hnew_; clear hg_ hnew_; (first | rw [← Ny466.out] at ho61 | (simp only [Int.reduceToNat] at ho61; rw [← Ny466.out] at ho61)); have HO468 := jA.mk (Kd.jU (Kd.jR (Kd.jR (Kd.jR (Kd.jR (Kd.jR (Kd.jR (Kd.jR ho61 (Kd.R_lt (rR_ HO_7))) (Kd.R_lt (rR_ HO_8))) (Kd.R_lt (rR_ HO_10))) (Kd.R_lt (rR_ HO451))) (Kd.R_lt (rR_ HO454))) (Kd.R_lt (rR_ HO458))) (Kd.R_lt (rR_ HO461))) (jB (bb_ HB))); replace HO_7 := re_ HO_7 ho61 hb; replace HO_8 := re_ HO_8 ho61 hb; replace HO_10 := re_ HO_10 ho61 hb; replace HO451 := re_ HO451 ho61 hb; replace HO454 := re_ HO454 ho61 hb; replace HO458 := re_ HO458 ho61 hb; replace HO461 := re_ HO461 ho61 hb; replace HB := bs_ HB hb; clear hb ho61; obtain ⟨Ao62, co62, eo62⟩ := Kd.jm HO468.out; subst eo62) | ((with_reducible refine jG (f := 23) rfl ?_); refine jo (some 96) rfl rfl Try.func23 kr_ rfl #[.slice A1 l1.length c1, .slice Ao62 y466.length co62] rfl mt_ ?_; (with_reducible refine (jE.calls k4 _ _ l1 _ _ y466 t469 _ ?side1 ?side2 ?side3 ?side4 A41.out).mono ?_); (case side1 => exact cc_ (Kd.jq HR1.out HB.out)); (case side2 => exact HC1.out); (case side3 => exact cc_ (Kd.jF HO468.out).2.2); (case side4 => exact (Kd.jF HO468.out).2.1); rintro e w63 ⟨v470, rfl, ho0, hb⟩; refine ⟨_, rfl, ?_⟩; have HO471 := jA.mk (Kd.jU (Kd.jR (Kd.jR (Kd.jR (Kd.jR (Kd.jR (Kd.jR (Kd.jR (Kd.jR ho0 (Kd.R_lt (rR_ HO_7))) (Kd.R_lt (rR_ HO_8))) (Kd.R_lt (rR_ HO_10))) (Kd.R_lt (rR_ HO451))) (Kd.R_lt (rR_ HO454))) (Kd.R_lt (rR_ HO458))) (Kd.R_lt (rR_ HO461))) (Kd.R_lt (rR_ HO468))) (jB (bb_ HB))); replace HO_7 := re_ HO_7 ho0 hb; replace HO_8 := re_ HO_8 ho0 hb; replace HO_10 := re_ HO_10 ho0 hb; replace HO451 := re_ HO451 ho0 hb; replace HO454 := re_ HO454 ho0 hb; replace HO458 := re_ HO458 ho0 hb; replace HO461 := re_ HO461 ho0 hb; replace HO468 := re_ HO468 ho0 hb; replace HB := bs_ HB hb; obtain ⟨Ao64, co64, eo64⟩ := Kd.jm HO471.out; subst eo64) | ((with_reducible refine jG (f := 105) rfl ?_); refine jo (some 97) rfl rfl Try.func105 kr_ rfl #[.slice Ao55 t459.length co55, .slice Ao64 t469.length co64] rfl mt_ ?_; (with_reducible refine (jc.calls k4 _ _ t459 _ _ t469 t472 t473 _ ?side1 ?side2 ?side3 ?side4 A42.out).mono ?_); (case side1 => exact cc_ (Kd.jF HO461.out).2.2); (case side2 => exact (Kd.jF HO461.out).2.1); (case side3 => exact cc_ (Kd.jF HO471.out).2.2); (case side4 => exact (Kd.jF HO471.out).2.1); rintro e w65 ⟨v474, rfl, ho0, hb⟩; refine ⟨_, rfl, ?_⟩; have HO475 := jA.mk (Kd.jU (Kd.jR (Kd.jR (Kd.jR (Kd.jR (Kd.jR (Kd.jR (Kd.jR (Kd.jR (Kd.jR ho0 (Kd.R_lt (rR_ HO_7))) (Kd.R_lt (rR_ HO_8))) (Kd.R_lt (rR_ HO_10))) (Kd.R_lt (rR_ HO451))) (Kd.R_lt (rR_ HO454))) (Kd.R_lt (rR_ HO458))) (Kd.R_lt (rR_ HO461))) (Kd.R_lt (rR_ HO468))) (Kd.R_lt (rR_ HO471))) (jB (bb_ HB))); replace HO_7 := re_ HO_7 ho0 hb; replace HO_8 := re_ HO_8 ho0 hb; replace HO_10 := re_ HO_10 ho0 hb; replace HO451 := re_ HO451 ho0 hb; replace HO454 := re_ HO454 ho0 hb; replace HO458 := re_ HO458 ho0 hb; replace HO461 := re_ HO461 ho0 hb; replace HO468 := re_ HO468 ho0 hb; replace HO471 := re_ HO471 ho0 hb; replace HB := bs_ HB hb))
                  go_roundg k4
                  case measure => have := HJ2.out; have := HJ8.out; have := HK3.out; have := HK4.out; omega
                  case rel => exact ⟨(y464), (t472), (wrap64 (x11_4 - 1)), sd_, H', ⟨by have := HJ2.out; have := HJ8.out; have := HK3.out; have := HK4.out; omega⟩, ⟨by (with_reducible repeat (first | apply Kd.zK | apply Kd.zN | apply Kd.zM)); exact Kd.jk HO_7.out (fun _ hk => ⟨hk.1.1.1.2, hk.2⟩)⟩, ⟨by (with_reducible repeat (first | apply Kd.zK | apply Kd.zN | apply Kd.zM)); exact Kd.jk HO_8.out (fun _ hk => ⟨hk.1.1.1.1, hk.2⟩)⟩, ⟨by (with_reducible repeat (first | apply Kd.zK | apply Kd.zN | apply Kd.zM)); exact Kd.jk HO475.out (fun _ hk => ⟨hk.1.1.1.1.1.1.1.1.2, hk.1.1.1.1.1.1.1.2⟩)⟩, ⟨(bb_ HB)⟩⟩
                 ·
                  rw [if_neg c39] at H
                  exact absurd H (by simp)
                ·
                 rw [if_neg c37] at H
                 have c37b0 := decide_eq_false c37
                 clear c37
                 have H' := jA.mk H
                 clear H
                 obtain ⟨Ao66, co66, eo66⟩ := Kd.jm HO_10.out
                 subst eo66
                 try go_wp2
                 have n0_ := jA.mk (Kd.zM HO_7.out)
                 have n1_ := jA.mk (Kd.zM HO_8.out)
                 have n2_ := jA.mk (Kd.zM HO_10.out)
                 have n3_ := jA.mk (qF HB.out)
                 clear HO_7
                 clear HO_8
                 clear HO_10
                 clear HB
                 have HO_7 := n0_
                 have HO_8 := n1_
                 have HO_10 := n2_
                 have HB := n3_
                 clear n0_ n1_ n2_ n3_
                 have p455 : 0 ≤ (x11_4 : Int) := of_decide_eq_true am_
                 have q455 : x11_4 < (t434.length : Int) := of_decide_eq_true am_
                 obtain ⟨ad455, e455, hx455_0⟩ := Kd.zD (Kd.jF HO_7.out).2.2 x11_4 p455 q455
                 cases e455
                 replace p455 := eq_true p455
                 replace q455 := eq_true q455
                 refine jAc (n := 10) (S := fun w' => w'.cell? (ad455.add (x11_4).toNat) = some (.int .u64 (rd t434 x11_4))) (ds := []) #[false, false, false, false, false, false, false, false, false, false] kr_ rfl rfl (hx455_0) (fun hHeld => ?_); refine jAX jC.jJy jC.jIe (fun HT_ HW_ => ?_)
                 generalize wr.drew = w67 at HO_7 HO_8 HO_10 HB hx455_0 hHeld ⊢
                 refine pu_ 0 (some 69) (ba_ 10 1) (vO HT_.out kr_) ?_
                 refine pu_ 3 (some 72) (ba_ 10 9) (vO HT_.out kr_) ?_
                 refine pu_ 4 (some 73) (ba_ 10 25) (vO HT_.out kr_) ?_
                 refine pu_ 5 (some 74) (ba_ 10 57) (vO HT_.out kr_) ?_
                 refine tk1_ 6 (some 75) (ba_ 10 121) (jAD HT_.out HW_.out kr_) hHeld ?_
                 refine jJR (σ := Value × Value × Value) 2 #[true, true, true, true, true, true, true, true, false, false] (fun s_ => [(70, s_.1), (71, s_.2.1), (76, s_.2.2)]) (fun s_ w' => (w'.cell? (ad455.add (x11_4).toNat) = some (.int .u64 (rd t434 x11_4))) ∧ (Kd.R (Kd.int .u64) 22 w' w.heap.size (fun k_ => some k_ ≠ (s_.2.1 : Value).ownBlock ∧ some k_ ≠ (s_.2.2 : Value).ownBlock ∧ some k_ ≠ (.slice Ao66 x10_4.length co66 : Value).ownBlock ∧ some k_ ≠ (.slice (some ad455) t434.length co28 : Value).ownBlock ∧ some k_ ≠ (u8 : Value).ownBlock) s_.1 y449) ∧ (Kd.R (Kd.int .u64) 22 w' w.heap.size (fun k_ => some k_ ≠ (s_.1 : Value).ownBlock ∧ some k_ ≠ (s_.2.2 : Value).ownBlock ∧ some k_ ≠ (.slice Ao66 x10_4.length co66 : Value).ownBlock ∧ some k_ ≠ (.slice (some ad455) t434.length co28 : Value).ownBlock ∧ some k_ ≠ (u8 : Value).ownBlock) s_.2.1 t452) ∧ (Kd.R (Kd.int .u64) 22 w' w.heap.size (fun k_ => some k_ ≠ (s_.1 : Value).ownBlock ∧ some k_ ≠ (s_.2.1 : Value).ownBlock ∧ some k_ ≠ (.slice Ao66 x10_4.length co66 : Value).ownBlock ∧ some k_ ≠ (.slice (some ad455) t434.length co28 : Value).ownBlock ∧ some k_ ≠ (u8 : Value).ownBlock) s_.2.2 y456) ∧ (Kd.R (Kd.int .u64) 22 w' w.heap.size (fun k_ => some k_ ≠ (s_.1 : Value).ownBlock ∧ some k_ ≠ (s_.2.1 : Value).ownBlock ∧ some k_ ≠ (s_.2.2 : Value).ownBlock ∧ some k_ ≠ (.slice (some ad455) t434.length co28 : Value).ownBlock ∧ some k_ ≠ (u8 : Value).ownBlock) (.slice Ao66 x10_4.length co66) x10_4) ∧ (Kd.R (Kd.int .u64) 22 w' w.heap.size (fun k_ => some k_ ≠ (s_.1 : Value).ownBlock ∧ some k_ ≠ (s_.2.1 : Value).ownBlock ∧ some k_ ≠ (s_.2.2 : Value).ownBlock ∧ some k_ ≠ (.slice Ao66 x10_4.length co66 : Value).ownBlock ∧ some k_ ≠ (u8 : Value).ownBlock) (.slice (some ad455) t434.length co28) t434) ∧ (Kd.R (Kd.int .u64) 22 w' w.heap.size (fun k_ => some k_ ≠ (s_.1 : Value).ownBlock ∧ some k_ ≠ (s_.2.1 : Value).ownBlock ∧ some k_ ≠ (s_.2.2 : Value).ownBlock ∧ some k_ ≠ (.slice Ao66 x10_4.length co66 : Value).ownBlock ∧ some k_ ≠ (.slice (some ad455) t434.length co28 : Value).ownBlock) u8 x8_4) ∧ (Below w.heap.size w w')) ?_ ?_
                 rotate_left
                 ·
                  intro hCont
                  refine two_ (i := 1) (j := 7) (Ni := some 70) (Nj := some 76) (ba_ 10 123) (ba_ 10 249) rfl rfl rfl rfl (jCs HT_.out kr_) (by decide) (by decide) (fun K hK => ?_) (fun K hK => ?_)
                  ·
                   skip
                   refine Kd.qI (Kd.int .u64) _ 22 ?hg (N := 70) ?hd (xs := ([4294967296] : List Int)) (inner := [.int .u64 4294967296]) (ok := fun _ => True) (okp := fun _ => True) ?hr ?hp (fun _ hk => hk) trivial (Below.refl _ _) (Nat.le_refl _) (by simp) ?_; (case hd => rfl); (case hg => rfl); (case hr => exact gs_); (case hp => exact (Reps.one (show Kd.M (Kd.int .u64) _ _ _ 4294967296 [.int .u64 4294967296] from rfl) (Reps.none _ _)))
                   intro v450 w68 ho69 hb hg_ hnew_
                   have HS0_ := (hb.cell (World.block_lt_of_cell? _ _ (hHeld))).trans (hHeld)
                   clear hg_ hnew_
                   (first | rw [← Ny449.out] at ho69 | (simp only [Int.reduceToNat] at ho69; rw [← Ny449.out] at ho69))
                   have n0_ := re_ HO_7 ho69 hb
                   have n1_ := re_ HO_8 ho69 hb
                   have n2_ := re_ HO_10 ho69 hb
                   have n3_ := jA.mk (Kd.jU (Kd.jR (Kd.jR (Kd.jR ho69 (Kd.R_lt (rR_ HO_7))) (Kd.R_lt (rR_ HO_8))) (Kd.R_lt (rR_ HO_10))) (jB (bb_ HB)))
                   have n4_ := bs_ HB hb
                   clear HO_7
                   clear HO_8
                   clear HO_10
                   clear HB
                   have HO_7 := n0_
                   have HO_8 := n1_
                   have HO_10 := n2_
                   have HO451 := n3_
                   have HB := n4_
                   clear n0_ n1_ n2_ n3_ n4_
                   clear hb ho69
                   obtain ⟨Ao70, co70, eo70⟩ := Kd.jm HO451.out
                   (first | subst eo70 | (injection eo70 with f1_ f2_ f3_; have f4_ := f1_.symm; have f5_ := f3_.symm; clear f1_ f2_ f3_; subst f4_; subst f5_))
                   refine hK.out _ _ (HS0_) (fun hHeld => ?_)
                   clear hK K
                   refine qJ (a' := ?_) ?_ ?_
                   rotate_left
                   ·
                    show Act.put _ (some 70) _ = _
                    simp only [Act.put, ss_, zF, zW]
                    rfl
                   refine two_ (i := 2) (j := 7) (Ni := some 71) (Nj := some 76) (ba_ 10 127) (ba_ 10 251) rfl rfl rfl rfl (jCs HT_.out kr_) (by decide) (by decide) (fun K hK => ?_) (fun K hK => ?_)
                   ·
                    skip
                    refine jBr Try.func23 kr_ rfl #[.slice Ao66 x10_4.length co66, .slice Ao70 y449.length co70] (by rfl) rfl rfl (by (try simp only [List.map_toArray, List.map_cons, List.map_nil]); first | done | rfl | (simp only [List.length_drop, List.length_take]; rfl)) ?_
                    with_reducible refine (jE.calls k4 _ _ x10_4 _ _ y449 t452 _ ?side1 ?side2 ?side3 ?side4 A32.out).mono ?_
                    (case side1 => exact cc_ (Kd.jF HO_10.out).2.2)
                    (case side2 => exact (Kd.jF HO_10.out).2.1)
                    (case side3 => exact cc_ (Kd.jF HO451.out).2.2)
                    (case side4 => exact (Kd.jF HO451.out).2.1)
                    rintro e w71 ⟨v453, rfl, ho0, hb⟩
                    have HS0_ := (hb.cell (World.block_lt_of_cell? _ _ (hHeld))).trans (hHeld)
                    refine ⟨_, rfl, ?_⟩
                    have n0_ := re_ HO_7 ho0 hb
                    have n1_ := re_ HO_8 ho0 hb
                    have n2_ := re_ HO_10 ho0 hb
                    have n3_ := re_ HO451 ho0 hb
                    have n4_ := jA.mk (Kd.jU (Kd.jR (Kd.jR (Kd.jR (Kd.jR ho0 (Kd.R_lt (rR_ HO_7))) (Kd.R_lt (rR_ HO_8))) (Kd.R_lt (rR_ HO_10))) (Kd.R_lt (rR_ HO451))) (jB (bb_ HB)))
                    have n5_ := bs_ HB hb
                    clear HO_7
                    clear HO_8
                    clear HO_10
                    clear HO451
                    clear HB
                    have HO_7 := n0_
                    have HO_8 := n1_
                    have HO_10 := n2_
                    have HO451 := n3_
                    have HO454 := n4_
                    have HB := n5_
                    clear n0_ n1_ n2_ n3_ n4_ n5_
                    (try clear hb)
                    (try clear hb2)
                    (try clear hk)
                    (try clear hi)
                    (try clear ho0)
                    refine hK.out _ _ (HS0_) (fun hHeld => ?_)
                    clear hK K
                    refine qJ (a' := ?_) ?_ ?_
                    rotate_left
                    ·
                     show Act.put _ (some 71) _ = _
                     simp only [Act.put, ss_, zF, zW]
                     rfl
                    refine one_ (i := 7) (N := some 76) (ba_ 10 255) rfl rfl (ql HT_.out kr_) (by decide) (fun K hK => ?_)
                    refine Kd.qI (Kd.int .u64) _ 22 ?hg (N := 76) ?hd (xs := ([rd t434 x11_4] : List Int)) (inner := [.int .u64 (rd t434 x11_4)]) (ok := fun _ => True) (okp := fun _ => True) ?hr ?hp (fun _ hk => hk) trivial (Below.refl _ _) (Nat.le_refl _) (by simp) ?_; (case hd => rfl); (case hg => rfl); (case hr => exact gs_); (case hp => exact (Reps.one (show Kd.M (Kd.int .u64) _ _ _ (rd t434 x11_4) [.int .u64 (rd t434 x11_4)] from rfl) (Reps.none _ _)))
                    intro v457 w72 ho73 hb hg_ hnew_
                    have HS0_ := (hb.cell (World.block_lt_of_cell? _ _ (hHeld))).trans (hHeld)
                    clear hg_ hnew_
                    (first | rw [← Ny456.out] at ho73 | (simp only [Int.reduceToNat] at ho73; rw [← Ny456.out] at ho73))
                    have n0_ := re_ HO_7 ho73 hb
                    have n1_ := re_ HO_8 ho73 hb
                    have n2_ := re_ HO_10 ho73 hb
                    have n3_ := re_ HO451 ho73 hb
                    have n4_ := re_ HO454 ho73 hb
                    have n5_ := jA.mk (Kd.jU (Kd.jR (Kd.jR (Kd.jR (Kd.jR (Kd.jR ho73 (Kd.R_lt (rR_ HO_7))) (Kd.R_lt (rR_ HO_8))) (Kd.R_lt (rR_ HO_10))) (Kd.R_lt (rR_ HO451))) (Kd.R_lt (rR_ HO454))) (jB (bb_ HB)))
                    have n6_ := bs_ HB hb
                    clear HO_7
                    clear HO_8
                    clear HO_10
                    clear HO451
                    clear HO454
                    clear HB
                    have HO_7 := n0_
                    have HO_8 := n1_
                    have HO_10 := n2_
                    have HO451 := n3_
                    have HO454 := n4_
                    have HO458 := n5_
                    have HB := n6_
                    clear n0_ n1_ n2_ n3_ n4_ n5_ n6_
                    clear hb ho73
                    refine hK.out _ _ (HS0_) (fun hHeld => ?_)
                    clear hK K
                    refine qJ (a' := ?_) ?_ ?_
                    rotate_left
                    ·
                     show Act.put _ (some 76) _ = _
                     simp only [Act.put, ss_, zF, zW]
                     rfl
                    exact qJ (by simp only [jAl, Act.put, ss_]) (hCont (.slice Ao70 y449.length co70, v453, v457) _ ⟨hHeld, (by refine pR_ ?_; exact Kd.jk HO451.out (fun _ hk => ⟨hk.1.2, ⟨hk.2, ⟨hk.1.1.2, ⟨hk.1.1.1.1.2, hk.1.1.1.2⟩⟩⟩⟩)), (by refine pR_ ?_; exact Kd.jk HO454.out (fun _ hk => ⟨hk.1.2, ⟨hk.2, ⟨hk.1.1.2, ⟨hk.1.1.1.1.2, hk.1.1.1.2⟩⟩⟩⟩)), (by refine pR_ ?_; exact Kd.jk HO458.out (fun _ hk => ⟨hk.1.2, ⟨hk.2, ⟨hk.1.1.2, ⟨hk.1.1.1.1.2, hk.1.1.1.2⟩⟩⟩⟩)), (by refine pR_ ?_; exact Kd.jk HO_10.out (fun _ hk => ⟨hk.1.1.2, ⟨hk.1.2, ⟨hk.2, ⟨hk.1.1.1.1, hk.1.1.1.2⟩⟩⟩⟩)), (by refine pR_ ?_; exact Kd.jk HO_7.out (fun _ hk => ⟨hk.1.1.2, ⟨hk.1.2, ⟨hk.2, ⟨hk.1.1.1.2, hk.1.1.1.1⟩⟩⟩⟩)), (by refine pR_ ?_; exact Kd.jk HO_8.out (fun _ hk => ⟨hk.1.1.2, ⟨hk.1.2, ⟨hk.2, ⟨hk.1.1.1.2, hk.1.1.1.1⟩⟩⟩⟩)), (bb_ HB)⟩)
                   ·
                    skip
                    refine Kd.qI (Kd.int .u64) _ 22 ?hg (N := 76) ?hd (xs := ([rd t434 x11_4] : List Int)) (inner := [.int .u64 (rd t434 x11_4)]) (ok := fun _ => True) (okp := fun _ => True) ?hr ?hp (fun _ hk => hk) trivial (Below.refl _ _) (Nat.le_refl _) (by simp) ?_; (case hd => rfl); (case hg => rfl); (case hr => exact gs_); (case hp => exact (Reps.one (show Kd.M (Kd.int .u64) _ _ _ (rd t434 x11_4) [.int .u64 (rd t434 x11_4)] from rfl) (Reps.none _ _)))
                    intro v457 w70 ho71 hb hg_ hnew_
                    have HS0_ := (hb.cell (World.block_lt_of_cell? _ _ (hHeld))).trans (hHeld)
                    clear hg_ hnew_
                    (first | rw [← Ny456.out] at ho71 | (simp only [Int.reduceToNat] at ho71; rw [← Ny456.out] at ho71))
                    have n0_ := re_ HO_7 ho71 hb
                    have n1_ := re_ HO_8 ho71 hb
                    have n2_ := re_ HO_10 ho71 hb
                    have n3_ := re_ HO451 ho71 hb
                    have n4_ := jA.mk (Kd.jU (Kd.jR (Kd.jR (Kd.jR (Kd.jR ho71 (Kd.R_lt (rR_ HO_7))) (Kd.R_lt (rR_ HO_8))) (Kd.R_lt (rR_ HO_10))) (Kd.R_lt (rR_ HO451))) (jB (bb_ HB)))
                    have n5_ := bs_ HB hb
                    clear HO_7
                    clear HO_8
                    clear HO_10
                    clear HO451
                    clear HB
                    have HO_7 := n0_
                    have HO_8 := n1_
                    have HO_10 := n2_
                    have HO451 := n3_
                    have HO458 := n4_
                    have HB := n5_
                    clear n0_ n1_ n2_ n3_ n4_ n5_
                    clear hb ho71
                    obtain ⟨Ao72, co72, eo72⟩ := Kd.jm HO451.out
                    (first | subst eo72 | (injection eo72 with f1_ f2_ f3_; have f4_ := f1_.symm; have f5_ := f3_.symm; clear f1_ f2_ f3_; subst f4_; subst f5_))
                    refine hK.out _ _ (HS0_) (fun hHeld => ?_)
                    clear hK K
                    refine qJ (a' := ?_) ?_ ?_
                    rotate_left
                    ·
                     show Act.put _ (some 76) _ = _
                     simp only [Act.put, ss_, zF, zW]
                     rfl
                    refine one_ (i := 2) (N := some 71) (ba_ 10 255) rfl rfl (ql HT_.out kr_) (by decide) (fun K hK => ?_)
                    refine jBr Try.func23 kr_ rfl #[.slice Ao66 x10_4.length co66, .slice Ao72 y449.length co72] (by rfl) rfl rfl (by (try simp only [List.map_toArray, List.map_cons, List.map_nil]); first | done | rfl | (simp only [List.length_drop, List.length_take]; rfl)) ?_
                    with_reducible refine (jE.calls k4 _ _ x10_4 _ _ y449 t452 _ ?side1 ?side2 ?side3 ?side4 A32.out).mono ?_
                    (case side1 => exact cc_ (Kd.jF HO_10.out).2.2)
                    (case side2 => exact (Kd.jF HO_10.out).2.1)
                    (case side3 => exact cc_ (Kd.jF HO451.out).2.2)
                    (case side4 => exact (Kd.jF HO451.out).2.1)
                    rintro e w73 ⟨v453, rfl, ho0, hb⟩
                    have HS0_ := (hb.cell (World.block_lt_of_cell? _ _ (hHeld))).trans (hHeld)
                    refine ⟨_, rfl, ?_⟩
                    have n0_ := re_ HO_7 ho0 hb
                    have n1_ := re_ HO_8 ho0 hb
                    have n2_ := re_ HO_10 ho0 hb
                    have n3_ := re_ HO451 ho0 hb
                    have n4_ := re_ HO458 ho0 hb
                    have n5_ := jA.mk (Kd.jU (Kd.jR (Kd.jR (Kd.jR (Kd.jR (Kd.jR ho0 (Kd.R_lt (rR_ HO_7))) (Kd.R_lt (rR_ HO_8))) (Kd.R_lt (rR_ HO_10))) (Kd.R_lt (rR_ HO451))) (Kd.R_lt (rR_ HO458))) (jB (bb_ HB)))
                    have n6_ := bs_ HB hb
                    clear HO_7
                    clear HO_8
                    clear HO_10
                    clear HO451
                    clear HO458
                    clear HB
                    have HO_7 := n0_
                    have HO_8 := n1_
                    have HO_10 := n2_
                    have HO451 := n3_
                    have HO458 := n4_
                    have HO454 := n5_
                    have HB := n6_
                    clear n0_ n1_ n2_ n3_ n4_ n5_ n6_
                    (try clear hb)
                    (try clear hb2)
                    (try clear hk)
                    (try clear hi)
                    (try clear ho0)
                    refine hK.out _ _ (HS0_) (fun hHeld => ?_)
                    clear hK K
                    refine qJ (a' := ?_) ?_ ?_
                    rotate_left
                    ·
                     show Act.put _ (some 71) _ = _
                     simp only [Act.put, ss_, zF, zW]
                     rfl
                    exact qJ (by simp only [jAl, Act.put, ss_]) (hCont (.slice Ao72 y449.length co72, v453, v457) _ ⟨hHeld, (by refine pR_ ?_; exact Kd.jk HO451.out (fun _ hk => ⟨hk.2, ⟨hk.1.2, ⟨hk.1.1.2, ⟨hk.1.1.1.1.2, hk.1.1.1.2⟩⟩⟩⟩)), (by refine pR_ ?_; exact Kd.jk HO454.out (fun _ hk => ⟨hk.1.2, ⟨hk.2, ⟨hk.1.1.2, ⟨hk.1.1.1.1.2, hk.1.1.1.2⟩⟩⟩⟩)), (by refine pR_ ?_; exact Kd.jk HO458.out (fun _ hk => ⟨hk.1.2, ⟨hk.2, ⟨hk.1.1.2, ⟨hk.1.1.1.1.2, hk.1.1.1.2⟩⟩⟩⟩)), (by refine pR_ ?_; exact Kd.jk HO_10.out (fun _ hk => ⟨hk.1.1.2, ⟨hk.2, ⟨hk.1.2, ⟨hk.1.1.1.1, hk.1.1.1.2⟩⟩⟩⟩)), (by refine pR_ ?_; exact Kd.jk HO_7.out (fun _ hk => ⟨hk.1.1.2, ⟨hk.2, ⟨hk.1.2, ⟨hk.1.1.1.2, hk.1.1.1.1⟩⟩⟩⟩)), (by refine pR_ ?_; exact Kd.jk HO_8.out (fun _ hk => ⟨hk.1.1.2, ⟨hk.2, ⟨hk.1.2, ⟨hk.1.1.1.2, hk.1.1.1.1⟩⟩⟩⟩)), (bb_ HB)⟩)
                  ·
                   skip
                   refine Kd.qI (Kd.int .u64) _ 22 ?hg (N := 76) ?hd (xs := ([rd t434 x11_4] : List Int)) (inner := [.int .u64 (rd t434 x11_4)]) (ok := fun _ => True) (okp := fun _ => True) ?hr ?hp (fun _ hk => hk) trivial (Below.refl _ _) (Nat.le_refl _) (by simp) ?_; (case hd => rfl); (case hg => rfl); (case hr => exact gs_); (case hp => exact (Reps.one (show Kd.M (Kd.int .u64) _ _ _ (rd t434 x11_4) [.int .u64 (rd t434 x11_4)] from rfl) (Reps.none _ _)))
                   intro v457 w68 ho69 hb hg_ hnew_
                   have HS0_ := (hb.cell (World.block_lt_of_cell? _ _ (hHeld))).trans (hHeld)
                   clear hg_ hnew_
                   (first | rw [← Ny456.out] at ho69 | (simp only [Int.reduceToNat] at ho69; rw [← Ny456.out] at ho69))
                   have n0_ := re_ HO_7 ho69 hb
                   have n1_ := re_ HO_8 ho69 hb
                   have n2_ := re_ HO_10 ho69 hb
                   have n3_ := jA.mk (Kd.jU (Kd.jR (Kd.jR (Kd.jR ho69 (Kd.R_lt (rR_ HO_7))) (Kd.R_lt (rR_ HO_8))) (Kd.R_lt (rR_ HO_10))) (jB (bb_ HB)))
                   have n4_ := bs_ HB hb
                   clear HO_7
                   clear HO_8
                   clear HO_10
                   clear HB
                   have HO_7 := n0_
                   have HO_8 := n1_
                   have HO_10 := n2_
                   have HO458 := n3_
                   have HB := n4_
                   clear n0_ n1_ n2_ n3_ n4_
                   clear hb ho69
                   refine hK.out _ _ (HS0_) (fun hHeld => ?_)
                   clear hK K
                   refine qJ (a' := ?_) ?_ ?_
                   rotate_left
                   ·
                    show Act.put _ (some 76) _ = _
                    simp only [Act.put, ss_, zF, zW]
                    rfl
                   refine one_ (i := 1) (N := some 70) (ba_ 10 251) rfl rfl (ql HT_.out kr_) (by decide) (fun K hK => ?_)
                   refine Kd.qI (Kd.int .u64) _ 22 ?hg (N := 70) ?hd (xs := ([4294967296] : List Int)) (inner := [.int .u64 4294967296]) (ok := fun _ => True) (okp := fun _ => True) ?hr ?hp (fun _ hk => hk) trivial (Below.refl _ _) (Nat.le_refl _) (by simp) ?_; (case hd => rfl); (case hg => rfl); (case hr => exact gs_); (case hp => exact (Reps.one (show Kd.M (Kd.int .u64) _ _ _ 4294967296 [.int .u64 4294967296] from rfl) (Reps.none _ _)))
                   intro v450 w70 ho71 hb hg_ hnew_
                   have HS0_ := (hb.cell (World.block_lt_of_cell? _ _ (hHeld))).trans (hHeld)
                   clear hg_ hnew_
                   (first | rw [← Ny449.out] at ho71 | (simp only [Int.reduceToNat] at ho71; rw [← Ny449.out] at ho71))
                   have n0_ := re_ HO_7 ho71 hb
                   have n1_ := re_ HO_8 ho71 hb
                   have n2_ := re_ HO_10 ho71 hb
                   have n3_ := re_ HO458 ho71 hb
                   have n4_ := jA.mk (Kd.jU (Kd.jR (Kd.jR (Kd.jR (Kd.jR ho71 (Kd.R_lt (rR_ HO_7))) (Kd.R_lt (rR_ HO_8))) (Kd.R_lt (rR_ HO_10))) (Kd.R_lt (rR_ HO458))) (jB (bb_ HB)))
                   have n5_ := bs_ HB hb
                   clear HO_7
                   clear HO_8
                   clear HO_10
                   clear HO458
                   clear HB
                   have HO_7 := n0_
                   have HO_8 := n1_
                   have HO_10 := n2_
                   have HO458 := n3_
                   have HO451 := n4_
                   have HB := n5_
                   clear n0_ n1_ n2_ n3_ n4_ n5_
                   clear hb ho71
                   obtain ⟨Ao72, co72, eo72⟩ := Kd.jm HO451.out
                   (first | subst eo72 | (injection eo72 with f1_ f2_ f3_; have f4_ := f1_.symm; have f5_ := f3_.symm; clear f1_ f2_ f3_; subst f4_; subst f5_))
                   refine hK.out _ _ (HS0_) (fun hHeld => ?_)
                   clear hK K
                   refine qJ (a' := ?_) ?_ ?_
                   rotate_left
                   ·
                    show Act.put _ (some 70) _ = _
                    simp only [Act.put, ss_, zF, zW]
                    rfl
                   refine one_ (i := 2) (N := some 71) (ba_ 10 255) rfl rfl (ql HT_.out kr_) (by decide) (fun K hK => ?_)
                   refine jBr Try.func23 kr_ rfl #[.slice Ao66 x10_4.length co66, .slice Ao72 y449.length co72] (by rfl) rfl rfl (by (try simp only [List.map_toArray, List.map_cons, List.map_nil]); first | done | rfl | (simp only [List.length_drop, List.length_take]; rfl)) ?_
                   with_reducible refine (jE.calls k4 _ _ x10_4 _ _ y449 t452 _ ?side1 ?side2 ?side3 ?side4 A32.out).mono ?_
                   (case side1 => exact cc_ (Kd.jF HO_10.out).2.2)
                   (case side2 => exact (Kd.jF HO_10.out).2.1)
                   (case side3 => exact cc_ (Kd.jF HO451.out).2.2)
                   (case side4 => exact (Kd.jF HO451.out).2.1)
                   rintro e w73 ⟨v453, rfl, ho0, hb⟩
                   have HS0_ := (hb.cell (World.block_lt_of_cell? _ _ (hHeld))).trans (hHeld)
                   refine ⟨_, rfl, ?_⟩
                   have n0_ := re_ HO_7 ho0 hb
                   have n1_ := re_ HO_8 ho0 hb
                   have n2_ := re_ HO_10 ho0 hb
                   have n3_ := re_ HO458 ho0 hb
                   have n4_ := re_ HO451 ho0 hb
                   have n5_ := jA.mk (Kd.jU (Kd.jR (Kd.jR (Kd.jR (Kd.jR (Kd.jR ho0 (Kd.R_lt (rR_ HO_7))) (Kd.R_lt (rR_ HO_8))) (Kd.R_lt (rR_ HO_10))) (Kd.R_lt (rR_ HO458))) (Kd.R_lt (rR_ HO451))) (jB (bb_ HB)))
                   have n6_ := bs_ HB hb
                   clear HO_7
                   clear HO_8
                   clear HO_10
                   clear HO458
                   clear HO451
                   clear HB
                   have HO_7 := n0_
                   have HO_8 := n1_
                   have HO_10 := n2_
                   have HO458 := n3_
                   have HO451 := n4_
                   have HO454 := n5_
                   have HB := n6_
                   clear n0_ n1_ n2_ n3_ n4_ n5_ n6_
                   (try clear hb)
                   (try clear hb2)
                   (try clear hk)
                   (try clear hi)
                   (try clear ho0)
                   refine hK.out _ _ (HS0_) (fun hHeld => ?_)
                   clear hK K
                   refine qJ (a' := ?_) ?_ ?_
                   rotate_left
                   ·
                    show Act.put _ (some 71) _ = _
                    simp only [Act.put, ss_, zF, zW]
                    rfl
                   exact qJ (by simp only [jAl, Act.put, ss_]) (hCont (.slice Ao72 y449.length co72, v453, v457) _ ⟨hHeld, (by refine pR_ ?_; exact Kd.jk HO451.out (fun _ hk => ⟨hk.2, ⟨hk.1.2, ⟨hk.1.1.2, ⟨hk.1.1.1.1.2, hk.1.1.1.2⟩⟩⟩⟩)), (by refine pR_ ?_; exact Kd.jk HO454.out (fun _ hk => ⟨hk.2, ⟨hk.1.2, ⟨hk.1.1.2, ⟨hk.1.1.1.1.2, hk.1.1.1.2⟩⟩⟩⟩)), (by refine pR_ ?_; exact Kd.jk HO458.out (fun _ hk => ⟨hk.1.2, ⟨hk.2, ⟨hk.1.1.2, ⟨hk.1.1.1.1.2, hk.1.1.1.2⟩⟩⟩⟩)), (by refine pR_ ?_; exact Kd.jk HO_10.out (fun _ hk => ⟨hk.1.2, ⟨hk.2, ⟨hk.1.1.2, ⟨hk.1.1.1.1, hk.1.1.1.2⟩⟩⟩⟩)), (by refine pR_ ?_; exact Kd.jk HO_7.out (fun _ hk => ⟨hk.1.2, ⟨hk.2, ⟨hk.1.1.2, ⟨hk.1.1.1.2, hk.1.1.1.1⟩⟩⟩⟩)), (by refine pR_ ?_; exact Kd.jk HO_8.out (fun _ hk => ⟨hk.1.2, ⟨hk.2, ⟨hk.1.1.2, ⟨hk.1.1.1.2, hk.1.1.1.1⟩⟩⟩⟩)), (bb_ HB)⟩)
                 rintro ⟨v450, v453, v457⟩ w74 ⟨hS_, h0_, h1_, h2_, h3_, h4_, h5_, h6_⟩
                 have n0_ : jA (Kd.R (Kd.int .u64) 22 w74 w.heap.size (fun k_ => some k_ ≠ (v453 : Value).ownBlock ∧ some k_ ≠ (v457 : Value).ownBlock ∧ some k_ ≠ (.slice Ao66 x10_4.length co66 : Value).ownBlock ∧ some k_ ≠ (.slice (some ad455) t434.length co28 : Value).ownBlock ∧ some k_ ≠ (u8 : Value).ownBlock) v450 y449) := ⟨h0_⟩
                 have n1_ : jA (Kd.R (Kd.int .u64) 22 w74 w.heap.size (fun k_ => some k_ ≠ (v450 : Value).ownBlock ∧ some k_ ≠ (v457 : Value).ownBlock ∧ some k_ ≠ (.slice Ao66 x10_4.length co66 : Value).ownBlock ∧ some k_ ≠ (.slice (some ad455) t434.length co28 : Value).ownBlock ∧ some k_ ≠ (u8 : Value).ownBlock) v453 t452) := ⟨h1_⟩
                 have n2_ : jA (Kd.R (Kd.int .u64) 22 w74 w.heap.size (fun k_ => some k_ ≠ (v450 : Value).ownBlock ∧ some k_ ≠ (v453 : Value).ownBlock ∧ some k_ ≠ (.slice Ao66 x10_4.length co66 : Value).ownBlock ∧ some k_ ≠ (.slice (some ad455) t434.length co28 : Value).ownBlock ∧ some k_ ≠ (u8 : Value).ownBlock) v457 y456) := ⟨h2_⟩
                 have n3_ : jA (Kd.R (Kd.int .u64) 22 w74 w.heap.size (fun k_ => some k_ ≠ (v450 : Value).ownBlock ∧ some k_ ≠ (v453 : Value).ownBlock ∧ some k_ ≠ (v457 : Value).ownBlock ∧ some k_ ≠ (.slice (some ad455) t434.length co28 : Value).ownBlock ∧ some k_ ≠ (u8 : Value).ownBlock) (.slice Ao66 x10_4.length co66) x10_4) := ⟨h3_⟩
                 have n4_ : jA (Kd.R (Kd.int .u64) 22 w74 w.heap.size (fun k_ => some k_ ≠ (v450 : Value).ownBlock ∧ some k_ ≠ (v453 : Value).ownBlock ∧ some k_ ≠ (v457 : Value).ownBlock ∧ some k_ ≠ (.slice Ao66 x10_4.length co66 : Value).ownBlock ∧ some k_ ≠ (u8 : Value).ownBlock) (.slice (some ad455) t434.length co28) t434) := ⟨h4_⟩
                 have n5_ : jA (Kd.R (Kd.int .u64) 22 w74 w.heap.size (fun k_ => some k_ ≠ (v450 : Value).ownBlock ∧ some k_ ≠ (v453 : Value).ownBlock ∧ some k_ ≠ (v457 : Value).ownBlock ∧ some k_ ≠ (.slice Ao66 x10_4.length co66 : Value).ownBlock ∧ some k_ ≠ (.slice (some ad455) t434.length co28 : Value).ownBlock) u8 x8_4) := ⟨h5_⟩
                 have n6_ : jA (Below w.heap.size w w74) := ⟨h6_⟩
                 clear HO_7
                 clear HO_8
                 clear HO_10
                 clear HB
                 clear h0_ h1_ h2_ h3_ h4_ h5_ h6_
                 have HO451 := n0_
                 have HO454 := n1_
                 have HO458 := n2_
                 have HO_10 := n3_
                 have HO_7 := n4_
                 have HO_8 := n5_
                 have HB := n6_
                 clear n0_ n1_ n2_ n3_ n4_ n5_ n6_
                 have hHeld : w74.cell? (ad455.add (x11_4).toNat) = some (.int .u64 (rd t434 x11_4)) := hS_
                 obtain ⟨Ao75, co75, eo75⟩ := Kd.jm HO454.out
                 (first | subst eo75 | (injection eo75 with f1_ f2_ f3_; have f4_ := f1_.symm; have f5_ := f3_.symm; clear f1_ f2_ f3_; subst f4_; subst f5_))
                 obtain ⟨Ao76, co76, eo76⟩ := Kd.jm HO458.out
                 (first | subst eo76 | (injection eo76 with f1_ f2_ f3_; have f4_ := f1_.symm; have f5_ := f3_.symm; clear f1_ f2_ f3_; subst f4_; subst f5_))
                 refine qJ (a' := ?_) ?_ ?_
                 rotate_left
                 ·
                  simp only [jAl, Act.put, ss_]
                  rfl
                 refine one_ (i := 8) (N := some 77) (ba_ 10 511) rfl rfl (ql HT_.out kr_) (by decide) (fun K hK => ?_)
                 refine jBr Try.func102 kr_ rfl #[.slice Ao75 t452.length co75, .slice Ao76 y456.length co76] (by rfl) rfl rfl (by (try simp only [List.map_toArray, List.map_cons, List.map_nil]); first | done | rfl | (simp only [List.length_drop, List.length_take]; rfl)) ?_
                 with_reducible refine (jL.calls k4 _ _ t452 _ _ y456 t459 _ ?side1 ?side2 ?side3 ?side4 A35.out).mono ?_
                 (case side1 => exact cc_ (Kd.jF HO454.out).2.2)
                 (case side2 => exact (Kd.jF HO454.out).2.1)
                 (case side3 => exact cc_ (Kd.jF HO458.out).2.2)
                 (case side4 => exact (Kd.jF HO458.out).2.1)
                 rintro e w77 ⟨v460, rfl, ho0, hb⟩
                 have HS0_ := (hb.cell (World.block_lt_of_cell? _ _ (hHeld))).trans (hHeld)
                 refine ⟨_, rfl, ?_⟩
                 have n0_ := re_ HO_7 ho0 hb
                 have n1_ := re_ HO_8 ho0 hb
                 have n2_ := re_ HO_10 ho0 hb
                 have n3_ := re_ HO451 ho0 hb
                 have n4_ := re_ HO454 ho0 hb
                 have n5_ := re_ HO458 ho0 hb
                 have n6_ := jA.mk (Kd.jU (Kd.jR (Kd.jR (Kd.jR (Kd.jR (Kd.jR (Kd.jR ho0 (Kd.R_lt (rR_ HO_7))) (Kd.R_lt (rR_ HO_8))) (Kd.R_lt (rR_ HO_10))) (Kd.R_lt (rR_ HO451))) (Kd.R_lt (rR_ HO454))) (Kd.R_lt (rR_ HO458))) (jB (bb_ HB)))
                 have n7_ := bs_ HB hb
                 clear HO_7
                 clear HO_8
                 clear HO_10
                 clear HO451
                 clear HO454
                 clear HO458
                 clear HB
                 have HO_7 := n0_
                 have HO_8 := n1_
                 have HO_10 := n2_
                 have HO451 := n3_
                 have HO454 := n4_
                 have HO458 := n5_
                 have HO461 := n6_
                 have HB := n7_
                 clear n0_ n1_ n2_ n3_ n4_ n5_ n6_ n7_
                 (try clear hb)
                 (try clear hb2)
                 (try clear hk)
                 (try clear hi)
                 (try clear ho0)
                 refine hK.out _ _ (HS0_) (fun hHeld => ?_)
                 clear hK K
                 refine qJ (a' := ?_) ?_ ?_
                 rotate_left
                 ·
                  show Act.put _ (some 77) _ = _
                  simp only [Act.put, ss_, zF, zW]
                  rfl
                 refine pu_ 9 (some 10) (ba_ 10 1023) (vO HT_.out kr_) ?_
                 refine jBZ (jBT HT_.out kr_) ?_
                 obtain ⟨Ao78, co78, eo78⟩ := Kd.jm HO461.out
                 subst eo78
                 try go_wp2_with (first | ((with_reducible refine jG (f := 103) rfl ?_); refine jo (some 80) rfl rfl Try.func103 kr_ rfl #[.slice Ao78 t459.length co78, .slice A1 l1.length c1] rfl mt_ ?_; (with_reducible refine (jO.calls k4 _ _ t459 _ _ l1 t462 _ ?side1 ?side2 ?side3 ?side4 A36.out).mono ?_); (case side1 => exact cc_ (Kd.jF HO461.out).2.2); (case side2 => exact (Kd.jF HO461.out).2.1); (case side3 => exact cc_ (Kd.jq HR1.out HB.out)); (case side4 => exact HC1.out); rintro e w79 ⟨rfl, hb⟩; refine ⟨_, rfl, ?_⟩; replace HO_7 := ro_ HO_7 hb; replace HO_8 := ro_ HO_8 hb; replace HO_10 := ro_ HO_10 hb; replace HO451 := ro_ HO451 hb; replace HO454 := ro_ HO454 hb; replace HO458 := ro_ HO458 hb; replace HO461 := ro_ HO461 hb; replace HB := bs_ HB hb))
                 go_roundg k4
                 case measure => have := HJ2.out; have := HJ8.out; have := HK3.out; have := HK4.out; omega
                 case rel => exact ⟨(x8_4), (t459), (wrap64 (x11_4 - 1)), sd_, H', ⟨by have := HJ2.out; have := HJ8.out; have := HK3.out; have := HK4.out; omega⟩, ⟨by (with_reducible repeat (first | apply Kd.zK | apply Kd.zN | apply Kd.zM)); exact Kd.jk HO_7.out (fun _ hk => ⟨hk.1.2.2.2.2, hk.2⟩)⟩, ⟨by (with_reducible repeat (first | apply Kd.zK | apply Kd.zN | apply Kd.zM)); exact Kd.jk HO_8.out (fun _ hk => ⟨hk.1.2.2.2.2, hk.2⟩)⟩, ⟨by (with_reducible repeat (first | apply Kd.zK | apply Kd.zN | apply Kd.zM)); exact Kd.jk HO461.out (fun _ hk => ⟨hk.1.1.1.1.1.2, hk.1.1.1.1.2⟩)⟩, ⟨(bb_ HB)⟩⟩
               ·
                rw [if_neg c34] at H
                exact absurd H (by simp)
              ·
               rw [if_neg c33] at H
               exact absurd H (by simp)
             ·
              rw [if_neg c31] at H
              have c31b0 := decide_eq_false c31
              clear c31
              replace H := ob_ H
              obtain ⟨t446, A800, H⟩ := H
              try dsimp only at H
              have A80 := jA.mk A800
              clear A800
              simp only [Option.some.injEq, Prod.mk.injEq] at H
              obtain ⟨rfl, rfl, rfl⟩ := H
              obtain ⟨Ao81, co81, eo81⟩ := Kd.jm HO_8.out
              subst eo81
              go_wp2_with (first | ((with_reducible refine jG (f := 70) rfl ?_); refine jo (some 102) rfl rfl Try.func70 kr_ rfl #[.slice Ao81 x8_4.length co81] rfl mt_ ?_; (with_reducible refine (jI.calls k4 _ _ x8_4 t446 _ ?side1 ?side2 A80.out).mono ?_); (case side1 => exact cc_ (Kd.jF HO_8.out).2.2); (case side2 => exact (Kd.jF HO_8.out).2.1); rintro e w82 ⟨v447, rfl, ho0, hb⟩; refine ⟨_, rfl, ?_⟩; have HO448 := jA.mk (Kd.jU (Kd.jR (Kd.jR (Kd.jR ho0 (Kd.R_lt (rR_ HO_7))) (Kd.R_lt (rR_ HO_8))) (Kd.R_lt (rR_ HO_10))) (jB (bb_ HB))); replace HO_7 := re_ HO_7 ho0 hb; replace HO_8 := re_ HO_8 ho0 hb; replace HO_10 := re_ HO_10 ho0 hb; replace HB := bs_ HB hb))
              go_ret3
              exact ⟨_, _, ew_, by refine pR_ ?_; exact Kd.jk HO448.out (fun _ hk => hk.2), by refine pR_ ?_; exact Kd.jk HO_10.out (fun _ hk => hk.2), (bb_ HB)⟩

end Go.Proofs.Ytijgeonhbmgikaa.POOctetGets
