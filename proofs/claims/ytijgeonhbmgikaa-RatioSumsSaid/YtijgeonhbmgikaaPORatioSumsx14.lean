-- printed (pr.py)
import Derived.Test.YtijgeonhbmgikaaPORatioSumsx0
import Derived.Test.YtijgeonhbmgikaaPORatioSumsx11
import Derived.Test.YtijgeonhbmgikaaPORatioSumsx12
import Derived.Test.YtijgeonhbmgikaaPORatioSumsx13
namespace Go.Proofs.Ytijgeonhbmgikaa.PORatioSums
open Go.RowKit Go.Proofs.YtijgeonhbmgikaaN Go.Proofs.YtijgeonhbmgikaaW.PrintWords Go.Proofs.YtijgeonhbmgikaaW.PrintLast Go.Proofs.YtijgeonhbmgikaaW.PrintMore
attribute [local go_sem] qV qR qy qx qA zy qU qP
set_option maxHeartbeats 8000000
set_option maxRecDepth 100000

/-! ### jD: function 78 -/
mutual
def jD.j0 : Nat → List Int → List Int → Bool → Option (List Int × List Int × Int)
 | 0, _, _, _ => none
 | k + 1, x0, x1, x21 => if x21 = true then (some (([] : List Int), ([] : List Int), 1)) else (if (x1.length : Int) = 0 then (some (([] : List Int), ([] : List Int), 30)) else (if (x0.length : Int) = 1 then (jD.j1 k x0 x1 ((x1.length : Int) == 1)) else (jD.j1 k x0 x1 false)))
def jD.j1 : Nat → List Int → List Int → Bool → Option (List Int × List Int × Int)
 | 0, _, _, _ => none
 | k + 1, x0, x1, x32 => if x32 = true then (if 0 < (x0.length : Int) then (if 0 < (x1.length : Int) then (if (rd x1 0) = 0 then (none) else ((zG.f k (IntKind.u64.wrap (Int.tdiv (rd x0 0) (rd x1 0)))).bind fun t536 => ((zG.f k (Int.tmod (rd x0 0) (rd x1 0))).bind fun t541 => (some (t536, t541, 0))))) else (none)) else (none)) else ((jH.f k x0).bind fun t544 => (jD.l0 k x1 t544 (([] : List Int)) 0))
def jD.l0 : Nat → List Int → List Int → List Int → Int → Option (List Int × List Int × Int)
 | 0, _, _, _, _ => none
 | k + 1, x1, x7, x8, x9 => if x9 < (x7.length : Int) then (if x8.length < 17592186044416 then (jD.l0 k x1 x7 (x8 ++ [0]) (wrap64 (x9 + 1))) else (none)) else (jD.l1 k x1 x7 x8 (([] : List Int)) (wrap64 ((x7.length : Int) - 1)))
def jD.l1 : Nat → List Int → List Int → List Int → List Int → Int → Option (List Int × List Int × Int)
 | 0, _, _, _, _, _ => none
 | k + 1, x1, x7, x8, x10, x11 => if x11 ≥ 0 then ((jG.f k x10 (([4294967296] : List Int))).bind fun t562 => (if 0 ≤ x11 then (if x11 < (x7.length : Int) then ((jQ.f k t562 (([rd x7 x11] : List Int))).bind fun t569 => ((jR.f k t569 x1).bind fun t572 => (if t572 ≥ 0 then ((jX.f k t569 x1).bind fun t573 => (if x11 < (x8.length : Int) then ((some (x8.set (x11 : Int).toNat t573 : List Int)).bind fun y574 => ((jG.f k x1 (([rd y574 x11] : List Int))).bind fun t579 => ((jZ.f k t569 t579).bind fun bt582 => (jD.l1 k x1 x7 y574 bt582.1 (wrap64 (x11 - 1)))))) else (none))) else (jD.l1 k x1 x7 x8 t569 (wrap64 (x11 - 1)))))) else (none)) else (none))) else ((jO.f k x8).bind fun t556 => (some (t556, x10, 0)))
end
def jD.f (k : Nat) (l0 : List Int) (l1 : List Int) : Option (List Int × List Int × Int) := (vH.f l0).bind fun t532 => (if t532 = true then ((vH.f l1).bind fun t533 => (jD.j0 k l0 l1 (!t533))) else (jD.j0 k l0 l1 true))
theorem jD.vk : ∀ k, (∀ y0 y1 y2, LeO (jD.j0 k y0 y1 y2) (jD.j0 (k + 1) y0 y1 y2)) ∧ (∀ y0 y1 y2, LeO (jD.j1 k y0 y1 y2) (jD.j1 (k + 1) y0 y1 y2)) ∧ (∀ y0 y1 y2 y3, LeO (jD.l0 k y0 y1 y2 y3) (jD.l0 (k + 1) y0 y1 y2 y3)) ∧ (∀ y0 y1 y2 y3 y4, LeO (jD.l1 k y0 y1 y2 y3 y4) (jD.l1 (k + 1) y0 y1 y2 y3 y4))
 | 0 => ⟨fun _ _ _ r h => by simp [jD.j0] at h, fun _ _ _ r h => by simp [jD.j1] at h, fun _ _ _ _ r h => by simp [jD.l0] at h, fun _ _ _ _ _ r h => by simp [jD.l1] at h⟩
 | k + 1 => by
  obtain ⟨ih0, ih1, ih2, ih3⟩ := jD.vk k
  refine ⟨?_, ?_, ?_, ?_⟩ <;> (intros; first | unfold jD.j0 | unfold jD.j1 | unfold jD.l0 | unfold jD.l1) <;> repeat' first
   | (with_reducible exact ih0 _ _ _)
   | (with_reducible exact ih1 _ _ _)
   | (with_reducible exact ih2 _ _ _ _)
   | (with_reducible exact ih3 _ _ _ _ _)
   | (with_reducible exact jQ.mono _ _ _)
   | (with_reducible exact jR.mono _ _ _)
   | (with_reducible exact jH.mono _ _)
   | (with_reducible exact jG.mono _ _ _)
   | (with_reducible exact jZ.mono _ _ _)
   | (with_reducible exact jO.mono _ _)
   | (with_reducible exact zG.mono _ _)
   | (with_reducible exact jX.mono _ _ _)
   | (with_reducible exact LeO.refl _)
   | (with_reducible exact LeO.none _)
   | (with_reducible refine LeO.ite ?_ ?_)
   | (with_reducible refine LeO.bind ?_ (fun _ => ?_))
theorem jD.mono : ∀ a0 a1 k, LeO (jD.f k a0 a1) (jD.f (k + 1) a0 a1) := by
 intro a0 a1 k
 obtain ⟨ih0, ih1, ih2, ih3⟩ := jD.vk k
 unfold jD.f
 repeat' first
   | (with_reducible exact ih0 _ _ _)
   | (with_reducible exact ih1 _ _ _)
   | (with_reducible exact ih2 _ _ _ _)
   | (with_reducible exact ih3 _ _ _ _ _)
   | (with_reducible exact jQ.mono _ _ _)
   | (with_reducible exact jR.mono _ _ _)
   | (with_reducible exact jH.mono _ _)
   | (with_reducible exact jG.mono _ _ _)
   | (with_reducible exact jZ.mono _ _ _)
   | (with_reducible exact jO.mono _ _)
   | (with_reducible exact zG.mono _ _)
   | (with_reducible exact jX.mono _ _ _)
   | (with_reducible exact LeO.refl _)
   | (with_reducible exact LeO.none _)
   | (with_reducible refine LeO.ite ?_ ?_)
   | (with_reducible refine LeO.bind ?_ (fun _ => ?_))
def jD.T6 : Bool × List (List Nat × List Nat) := (true, [([], []), ([0], [0]), ([1], [1]), ([], []), ([3], [3]), ([4], [4]), ([2, 5], [2, 5]), ([6], [6]), ([], []), ([8], [8]), ([9], [9]), ([], []), ([11], [11]), ([12], [12]), ([10, 13], [10, 13]), ([14, 7], [14]), ([7, 15, 0, 1, 2, 3, 4, 5, 6, 7], [7]), ([15, 16, 0, 1, 2, 3, 4, 5, 6, 7, 8, 9, 10, 11, 12, 13, 14, 15, 16], [15]), ([17, 0, 1, 2, 3, 4, 5, 6, 7, 8, 9, 10, 11, 12, 13, 14, 15, 16, 17], [])])
def jD.B6 : List Nat := [0, 1, 3, 0, 8, 24, 63, 127, 0, 256, 768, 0, 2048, 6144, 16128, 32767, 65535, 131071, 262143]
theorem jD.tab6 : rtab .any (opsOf Try.f78 6) = jD.T6 := by kernel_rfl
theorem jD.jKQ : jAk jD.T6.2 jD.B6 = true := by kernel_rfl
def jD.T17 : Bool × List (List Nat × List Nat) := (true, [([], []), ([], []), ([0, 1], [0, 1]), ([], []), ([], []), ([3, 4], [3, 4]), ([5], [5]), ([6], [6]), ([2, 7, 2], [2, 7]), ([8, 8, 0, 1, 2, 3, 4, 5, 6, 7, 8], [0, 8])])
def jD.B17 : List Nat := [0, 0, 3, 0, 0, 24, 56, 120, 255, 511]
theorem jD.jIx : rtab .any (opsOf Try.f78 17) = jD.T17 := by kernel_rfl
theorem jD.jHn : jAk jD.T17.2 jD.B17 = true := by kernel_rfl
theorem jD.calls (k : Nat) (A0 : Option Addr) (c0 : Nat) (l0 : List Int) (A1 : Option Addr) (c1 : Nat) (l1 : List Int) (r1 : List Int) (r2 : List Int) (r3 : Int) (w : World) (hr0 : Kd.C (Kd.int .u64) w A0 l0.length l0) (hc0 : l0.length ≤ c0) (hr1 : Kd.C (Kd.int .u64) w A1 l1.length l1) (hc1 : l1.length ≤ c1) (h : jD.f k l0 l1 = some (r1, r2, r3)) :
  Calls Try.prog 78 #[.slice A0 l0.length c0, .slice A1 l1.length c1] w fun e w' => ∃ v0_ v1_ : Value, e = .returned (.tuple #[v0_, v1_, .int .i64 r3]) ∧ Kd.R (Kd.int .u64) 22 w' w.heap.size (fun k_ => some k_ ≠ (v1_ : Value).ownBlock) v0_ r1 ∧ Kd.R (Kd.int .u64) 22 w' w.heap.size (fun k_ => some k_ ≠ (v0_ : Value).ownBlock) v1_ r2 ∧ Below w.heap.size w w' := by
 have HR0 := jA.mk hr0
 have HC0 := jA.mk hc0
 clear hr0 hc0
 have HR1 := jA.mk hr1
 have HC1 := jA.mk hc1
 clear hr1 hc1
 have HB := jA.mk (Below.refl w.heap.size w)
 have H : ((vH.f l0).bind fun t532 => (if t532 = true then ((vH.f l1).bind fun t533 => (jD.j0 k l0 l1 (!t533))) else (jD.j0 k l0 l1 true))) = some (r1, r2, r3) := h
 clear h
 have HC3 := jA.mk H
 clear H
 go_enter Try.func78, Try.ntmps78
 go_upto_region 1 with (fail)
 go_cut [21] (fun v21 wc => ∃ (kq : Nat) (x21_2 : Bool), v21 = .bool x21_2 ∧ jA (jD.j0 kq l0 l1 x21_2 = some (r1, r2, r3)) ∧ jA (kq ≤ k) ∧ jA (Below w.heap.size w wc))
 case first =>
  have H := HC3.out
  clear HC3
  replace H := ob_ H
  obtain ⟨t532, A40, H⟩ := H
  try dsimp only at H
  have A4 := jA.mk A40
  clear A40
  by_cases c5 : t532 = true
  ·
   subst c5
   have H1 : ((vH.f l1).bind fun t533 => (jD.j0 k l0 l1 (!t533))) = some (r1, r2, r3) := by rw [if_pos rfl] at H; exact H
   clear H
   have H := H1
   clear H1
   replace H := ob_ H
   obtain ⟨t533, A60, H⟩ := H
   try dsimp only at H
   have A6 := jA.mk A60
   clear A60
   have H' := jA.mk H
   clear H
   go_wp2_with (first | ((with_reducible refine jJ (f := 74) rfl ?_); refine jr (some 15) rfl rfl Try.func74 kr_ rfl #[.slice A0 l0.length c0] rfl mt_ ?_; (with_reducible refine (vH.calls _ _ l0 true _ ?side1 ?side2 A4.out).mono ?_); (case side1 => exact cc_ (Kd.je HR0.out HB.out)); (case side2 => exact HC0.out); rintro e w' ⟨rfl, ⟨nd, rfl⟩⟩; refine ⟨_, rfl, ?_⟩) | ((with_reducible refine jl (N := 19) rfl ?_); (try (refine jv (by rfl) ?_; dsimp only)); refine jv (by first | rfl | kernel_rfl) ?_; dsimp only; (with_reducible refine jJ (f := 74) rfl ?_); refine jr (some 19) rfl rfl Try.func74 kr_ rfl #[.slice A1 l1.length c1] rfl mt_ ?_; (with_reducible refine (vH.calls _ _ l1 t533 _ ?side1 ?side2 A6.out).mono ?_); (case side1 => repeat (first | exact (Kd.je HR1.out (bb_ HB)) | (with_reducible refine Kd.zR ?_ _) | (with_reducible refine Kd.zh ?_ _) | (with_reducible refine Kd.qG ?_))); (case side2 => exact HC1.out); rintro e w' ⟨rfl, ⟨nd, rfl⟩⟩; refine ⟨_, rfl, ?_⟩))
   go_meet
   case rel => exact ⟨_, (!t533), sd_, H', ⟨by first | omega | exact Nat.le_refl _⟩, ⟨(bb_ HB)⟩⟩
  ·
   replace c5 := Bool.eq_false_iff.mpr c5
   subst c5
   have H1 : (jD.j0 k l0 l1 true) = some (r1, r2, r3) := by rw [if_neg (show ¬ (false = true) by decide)] at H; exact H
   clear H
   have H := H1
   clear H1
   have H' := jA.mk H
   clear H
   go_wp2_with (first | ((with_reducible refine jJ (f := 74) rfl ?_); refine jr (some 15) rfl rfl Try.func74 kr_ rfl #[.slice A0 l0.length c0] rfl mt_ ?_; (with_reducible refine (vH.calls _ _ l0 false _ ?side1 ?side2 A4.out).mono ?_); (case side1 => exact cc_ (Kd.je HR0.out HB.out)); (case side2 => exact HC0.out); rintro e w' ⟨rfl, ⟨nd, rfl⟩⟩; refine ⟨_, rfl, ?_⟩))
   go_meet
   case rel => exact ⟨_, (true), sd_, H', ⟨by first | omega | exact Nat.le_refl _⟩, ⟨(bb_ HB)⟩⟩
 case rest =>
  clear HC3
  try clear c1
  try clear p2
  try clear c5
  obtain ⟨kq, x21_2, rfl, HA, HJ2, HB⟩ := hcut
  cases kq with
  | zero => exact absurd HA.out (by simp [jD.j0])
  | succ kj2 =>
   have H := HA.out
   clear HA
   simp only [jD.j0] at H
   by_cases c7 : x21_2 = true
   ·
    subst c7
    have H1 : (some (([] : List Int), ([] : List Int), 1)) = some (r1, r2, r3) := by rw [if_pos rfl] at H; exact H
    clear H
    have H := H1
    clear H1
    simp only [Option.some.injEq, Prod.mk.injEq] at H
    obtain ⟨rfl, rfl, rfl⟩ := H
    go_wp2
    go_ret3
    exact ⟨_, _, ew_, nl_, nl_, (bb_ HB)⟩
   ·
    replace c7 := Bool.eq_false_iff.mpr c7
    subst c7
    have H1 : (if (l1.length : Int) = 0 then (some (([] : List Int), ([] : List Int), 30)) else (if (l0.length : Int) = 1 then (jD.j1 kj2 l0 l1 ((l1.length : Int) == 1)) else (jD.j1 kj2 l0 l1 false))) = some (r1, r2, r3) := by rw [if_neg (show ¬ (false = true) by decide)] at H; exact H
    clear H
    have H := H1
    clear H1
    by_cases c8 : (l1.length : Int) = 0
    ·
     rw [if_pos c8] at H
     have c8b0 := beq_iff_eq.mpr c8
     have c8b1 := bne_eq_false_iff_eq.mpr c8
     clear c8
     simp only [Option.some.injEq, Prod.mk.injEq] at H
     obtain ⟨rfl, rfl, rfl⟩ := H
     go_wp2
     go_ret3
     exact ⟨_, _, ew_, nl_, nl_, (bb_ HB)⟩
    ·
     rw [if_neg c8] at H
     have c8b0 := beq_eq_false_iff_ne.mpr c8
     have c8b1 := bne_iff_ne.mpr c8
     have c8b2 : ¬ (l1 = []) := fun h_ => c8 (by rw [h_]; rfl)
     have HC9 := jA.mk H
     clear H
     go_upto_region 5 with (fail)
     go_cut [32] (fun v32 wc => ∃ (kq : Nat) (x32_8 : Bool), v32 = .bool x32_8 ∧ jA (jD.j1 kq l0 l1 x32_8 = some (r1, r2, r3)) ∧ jA (kq ≤ kj2) ∧ jA (Below w.heap.size w wc))
     case first =>
      have H := HC9.out
      clear HC9
      by_cases c10 : (l0.length : Int) = 1
      ·
       rw [if_pos c10] at H
       have c10b0 := beq_iff_eq.mpr c10
       have c10b1 := bne_eq_false_iff_eq.mpr c10
       clear c10
       (first | rw [c10b0] | (simp only [jk, jo]; rw [c10b0]) | skip)
       have H' := jA.mk H
       clear H
       go_wp2
       go_meet
       case rel => exact ⟨_, (((l1.length : Int) == 1)), sd_, H', ⟨by have := HJ2.out; first | omega | exact Nat.le_refl _⟩, ⟨(bb_ HB)⟩⟩
      ·
       rw [if_neg c10] at H
       have c10b0 := beq_eq_false_iff_ne.mpr c10
       have c10b1 := bne_iff_ne.mpr c10
       (first | rw [c10b0] | (simp only [jk, jo]; rw [c10b0]) | skip)
       have H' := jA.mk H
       clear H
       go_wp2
       go_meet
       case rel => exact ⟨_, (false), sd_, H', ⟨by have := HJ2.out; first | omega | exact Nat.le_refl _⟩, ⟨(bb_ HB)⟩⟩
     case rest =>
      clear HC9
      try clear c1
      try clear p2
      try clear c5
      try clear c7
      try clear c8
      try clear c8b0
      try clear c8b1
      try clear c8b2
      try clear c10
      try clear c10b0
      try clear c10b1
      try clear p2
      obtain ⟨kq, x32_8, rfl, HA, HJ8, HB⟩ := hcut
      cases kq with
      | zero => exact absurd HA.out (by simp [jD.j1])
      | succ kj8 =>
       have H := HA.out
       clear HA
       simp only [jD.j1] at H
       by_cases c11 : x32_8 = true
       ·
        subst c11
        have H1 : (if 0 < (l0.length : Int) then (if 0 < (l1.length : Int) then (if (rd l1 0) = 0 then (none) else ((zG.f kj8 (IntKind.u64.wrap (Int.tdiv (rd l0 0) (rd l1 0)))).bind fun t536 => ((zG.f kj8 (Int.tmod (rd l0 0) (rd l1 0))).bind fun t541 => (some (t536, t541, 0))))) else (none)) else (none)) = some (r1, r2, r3) := by rw [if_pos rfl] at H; exact H
        clear H
        have H := H1
        clear H1
        by_cases c12 : 0 < (l0.length : Int)
        ·
         rw [if_pos c12] at H
         have c12b0 := decide_eq_true c12
         have c12b1 : decide (0 < l0.length) = true := decide_eq_true (by omega)
         clear c12
         by_cases c13 : 0 < (l1.length : Int)
         ·
          rw [if_pos c13] at H
          have c13b0 := decide_eq_true c13
          have c13b1 : decide (0 < l1.length) = true := decide_eq_true (by omega)
          clear c13
          by_cases c14 : (rd l1 0) = 0
          ·
           rw [if_pos c14] at H
           exact absurd H (by simp)
          ·
           rw [if_neg c14] at H
           have c14b0 := beq_eq_false_iff_ne.mpr c14
           have c14b1 := bne_iff_ne.mpr c14
           replace H := ob_ H
           obtain ⟨t536, A150, H⟩ := H
           try dsimp only at H
           have A15 := jA.mk A150
           clear A150
           replace H := ob_ H
           obtain ⟨t541, A160, H⟩ := H
           try dsimp only at H
           have A16 := jA.mk A160
           clear A160
           simp only [Option.some.injEq, Prod.mk.injEq] at H
           obtain ⟨rfl, rfl, rfl⟩ := H
           try go_wp2
           have n0_ := jA.mk (qI HB.out)
           clear HB
           have HB := n0_
           clear n0_
           have p534 : 0 ≤ (0 : Int) := (by omega)
           have q534 : 0 < (l0.length : Int) := of_decide_eq_true am_
           obtain ⟨ad534, e534, hx534_0⟩ := Kd.zF HR0.out 0 p534 q534
           have hw534_0 := hx534_0
           (try rw [show ((0 : Int)).toNat = 0 from rfl] at hw534_0)
           (try rw [show 0 * 1 = 0 from rfl] at hw534_0)
           (try rw [Addr.add_zero'] at hw534_0)
           cases e534
           have qi534 : (0 < l0.length) = True := eq_true (by omega)
           (try rw [show ((0 : Int)).toNat = 0 from rfl] at hx534_0)
           (try rw [Addr.add_zero'] at hx534_0)
           replace hx534_0 := (HB.out.cell (World.block_lt_of_cell? w _ hx534_0)).trans hx534_0
           replace p534 := eq_true p534
           replace q534 := eq_true q534
           have p535 : 0 ≤ (0 : Int) := (by omega)
           have q535 : 0 < (l1.length : Int) := of_decide_eq_true am_
           obtain ⟨ad535, e535, hx535_0⟩ := Kd.zF HR1.out 0 p535 q535
           have hw535_0 := hx535_0
           (try rw [show ((0 : Int)).toNat = 0 from rfl] at hw535_0)
           (try rw [show 0 * 1 = 0 from rfl] at hw535_0)
           (try rw [Addr.add_zero'] at hw535_0)
           cases e535
           have qi535 : (0 < l1.length) = True := eq_true (by omega)
           (try rw [show ((0 : Int)).toNat = 0 from rfl] at hx535_0)
           (try rw [Addr.add_zero'] at hx535_0)
           replace hx535_0 := (HB.out.cell (World.block_lt_of_cell? w _ hx535_0)).trans hx535_0
           replace p535 := eq_true p535
           replace q535 := eq_true q535
           have p539 : 0 ≤ (0 : Int) := (by omega)
           have q539 : 0 < (l0.length : Int) := of_decide_eq_true am_
           obtain ⟨ad539, e539, hx539_0⟩ := Kd.zF HR0.out 0 p539 q539
           have hw539_0 := hx539_0
           (try rw [show ((0 : Int)).toNat = 0 from rfl] at hw539_0)
           (try rw [show 0 * 1 = 0 from rfl] at hw539_0)
           (try rw [Addr.add_zero'] at hw539_0)
           obtain rfl : ad534 = ad539 := (by injection e539)
           have qi539 : (0 < l0.length) = True := eq_true (by omega)
           (try rw [show ((0 : Int)).toNat = 0 from rfl] at hx539_0)
           (try rw [Addr.add_zero'] at hx539_0)
           replace hx539_0 := (HB.out.cell (World.block_lt_of_cell? w _ hx539_0)).trans hx539_0
           replace p539 := eq_true p539
           replace q539 := eq_true q539
           have p540 : 0 ≤ (0 : Int) := (by omega)
           have q540 : 0 < (l1.length : Int) := of_decide_eq_true am_
           obtain ⟨ad540, e540, hx540_0⟩ := Kd.zF HR1.out 0 p540 q540
           have hw540_0 := hx540_0
           (try rw [show ((0 : Int)).toNat = 0 from rfl] at hw540_0)
           (try rw [show 0 * 1 = 0 from rfl] at hw540_0)
           (try rw [Addr.add_zero'] at hw540_0)
           obtain rfl : ad535 = ad540 := (by injection e540)
           have qi540 : (0 < l1.length) = True := eq_true (by omega)
           (try rw [show ((0 : Int)).toNat = 0 from rfl] at hx540_0)
           (try rw [Addr.add_zero'] at hx540_0)
           replace hx540_0 := (HB.out.cell (World.block_lt_of_cell? w _ hx540_0)).trans hx540_0
           replace p540 := eq_true p540
           replace q540 := eq_true q540
           refine jAs (n := 19) (S := fun w' => w'.cell? ad534 = some (.int .u64 (rd l0 0)) ∧ w'.cell? ad535 = some (.int .u64 (rd l1 0)) ∧ w'.cell? ad534 = some (.int .u64 (rd l0 0)) ∧ w'.cell? ad535 = some (.int .u64 (rd l1 0))) (ds := []) #[false, false, false, false, false, false, false, false, false, false, false, false, false, false, false, false, false, false, false] kr_ rfl rfl ⟨((HB.out.cell (World.block_lt_of_cell? w _ hw534_0)).trans hw534_0), ((HB.out.cell (World.block_lt_of_cell? w _ hw535_0)).trans hw535_0), ((HB.out.cell (World.block_lt_of_cell? w _ hw539_0)).trans hw539_0), ((HB.out.cell (World.block_lt_of_cell? w _ hw540_0)).trans hw540_0)⟩ (fun hHeld => ?_); refine jAa jD.tab6 jD.jKQ (fun HT_ HW_ => ?_)
           generalize wc.drew = w17 at HB hx534_0 hx535_0 hx539_0 hx540_0 hHeld ⊢
           refine vU (i := 0) (N := some 33) (v := ?_) (a' := ?_) #[true, false, false, false, false, false, false, false, false, false, false, false, false, false, false, false, false, false, false] rfl rfl (vQ HT_.out kr_) (fun _ _ _ h => h) (Or.inl ⟨by rfl, ?_⟩) ?_ ?_
           rotate_left
           ·
            intro w'
            go_simp
            with_reducible rfl
           rotate_left
           ·
            simp only [Act.put, ss_, jk, jo]
            rfl
           refine vU (i := 1) (N := some 34) (v := ?_) (a' := ?_) #[true, true, false, false, false, false, false, false, false, false, false, false, false, false, false, false, false, false, false] rfl rfl (vQ HT_.out kr_) (fun _ _ _ h => h) (Or.inl ⟨by rfl, ?_⟩) ?_ ?_
           rotate_left
           ·
            intro w'
            go_simp
            with_reducible rfl
           rotate_left
           ·
            simp only [Act.put, ss_, jk, jo]
            rfl
           refine vU (i := 3) (N := some 36) (v := ?_) (a' := ?_) #[true, true, false, true, false, false, false, false, false, false, false, false, false, false, false, false, false, false, false] rfl rfl (vQ HT_.out kr_) (fun _ _ _ h => h) (Or.inl ⟨by rfl, ?_⟩) ?_ ?_
           rotate_left
           ·
            intro w'
            go_simp
            with_reducible rfl
           rotate_left
           ·
            simp only [Act.put, ss_, jk, jo]
            rfl
           refine vU (i := 4) (N := some 37) (v := ?_) (a' := ?_) #[true, true, false, true, true, false, false, false, false, false, false, false, false, false, false, false, false, false, false] rfl rfl (vQ HT_.out kr_) (fun _ _ _ h => h) (Or.inl ⟨by rfl, ?_⟩) ?_ ?_
           rotate_left
           ·
            intro w'
            go_simp
            with_reducible rfl
           rotate_left
           ·
            simp only [Act.put, ss_, jk, jo]
            rfl
           refine vU (i := 8) (N := some 41) (v := ?_) (a' := ?_) #[true, true, false, true, true, false, false, false, true, false, false, false, false, false, false, false, false, false, false] rfl rfl (vQ HT_.out kr_) (fun _ _ _ h => h) (Or.inl ⟨by rfl, ?_⟩) ?_ ?_
           rotate_left
           ·
            intro w'
            go_simp
            with_reducible rfl
           rotate_left
           ·
            simp only [Act.put, ss_, jk, jo]
            rfl
           refine vU (i := 9) (N := some 42) (v := ?_) (a' := ?_) #[true, true, false, true, true, false, false, false, true, true, false, false, false, false, false, false, false, false, false] rfl rfl (vQ HT_.out kr_) (fun _ _ _ h => h) (Or.inl ⟨by rfl, ?_⟩) ?_ ?_
           rotate_left
           ·
            intro w'
            go_simp
            with_reducible rfl
           rotate_left
           ·
            simp only [Act.put, ss_, jk, jo]
            rfl
           refine vU (i := 11) (N := some 44) (v := ?_) (a' := ?_) #[true, true, false, true, true, false, false, false, true, true, false, true, false, false, false, false, false, false, false] rfl rfl (vQ HT_.out kr_) (fun _ _ _ h => h) (Or.inl ⟨by rfl, ?_⟩) ?_ ?_
           rotate_left
           ·
            intro w'
            go_simp
            with_reducible rfl
           rotate_left
           ·
            simp only [Act.put, ss_, jk, jo]
            rfl
           refine vU (i := 12) (N := some 45) (v := ?_) (a' := ?_) #[true, true, false, true, true, false, false, false, true, true, false, true, true, false, false, false, false, false, false] rfl rfl (vQ HT_.out kr_) (fun _ _ _ h => h) (Or.inl ⟨by rfl, ?_⟩) ?_ ?_
           rotate_left
           ·
            intro w'
            go_simp
            with_reducible rfl
           rotate_left
           ·
            simp only [Act.put, ss_, jk, jo]
            rfl
           refine qw (i := 2) (N := some 35) (v := ?_) (a' := ?_) #[true, true, true, true, true, false, false, false, true, true, false, true, true, false, false, false, false, false, false] rfl rfl (qZ HT_.out HW_.out kr_) (fun _ _ _ h => h) (Or.inl ⟨by rfl, ?_⟩) hHeld ?_ ?_
           rotate_left
           ·
            rintro w' ⟨s0, s1, s2, s3⟩
            go_simp
            with_reducible rfl
           rotate_left
           ·
            simp only [Act.put, ss_, jk, jo]
            rfl
           refine qw (i := 5) (N := some 38) (v := ?_) (a' := ?_) #[true, true, true, true, true, true, false, false, true, true, false, true, true, false, false, false, false, false, false] rfl rfl (qZ HT_.out HW_.out kr_) (fun _ _ _ h => h) (Or.inl ⟨by rfl, ?_⟩) hHeld ?_ ?_
           rotate_left
           ·
            rintro w' ⟨s0, s1, s2, s3⟩
            go_simp
            with_reducible rfl
           rotate_left
           ·
            simp only [Act.put, ss_, jk, jo]
            rfl
           refine vU (i := 6) (N := some 39) (v := ?_) (a' := ?_) #[true, true, true, true, true, true, true, false, true, true, false, true, true, false, false, false, false, false, false] rfl rfl (vQ HT_.out kr_) (fun _ _ _ h => h) (Or.inl ⟨by rfl, ?_⟩) ?_ ?_
           rotate_left
           ·
            intro w'
            go_simp
            with_reducible rfl
           rotate_left
           ·
            simp only [Act.put, ss_, jk, jo]
            rfl
           refine qw (i := 10) (N := some 43) (v := ?_) (a' := ?_) #[true, true, true, true, true, true, true, false, true, true, true, true, true, false, false, false, false, false, false] rfl rfl (qZ HT_.out HW_.out kr_) (fun _ _ _ h => h) (Or.inl ⟨by rfl, ?_⟩) hHeld ?_ ?_
           rotate_left
           ·
            rintro w' ⟨s0, s1, s2, s3⟩
            go_simp
            with_reducible rfl
           rotate_left
           ·
            simp only [Act.put, ss_, jk, jo]
            rfl
           refine qw (i := 13) (N := some 46) (v := ?_) (a' := ?_) #[true, true, true, true, true, true, true, false, true, true, true, true, true, true, false, false, false, false, false] rfl rfl (qZ HT_.out HW_.out kr_) (fun _ _ _ h => h) (Or.inl ⟨by rfl, ?_⟩) hHeld ?_ ?_
           rotate_left
           ·
            rintro w' ⟨s0, s1, s2, s3⟩
            go_simp
            with_reducible rfl
           rotate_left
           ·
            simp only [Act.put, ss_, jk, jo]
            rfl
           refine vU (i := 14) (N := some 47) (v := ?_) (a' := ?_) #[true, true, true, true, true, true, true, false, true, true, true, true, true, true, true, false, false, false, false] rfl rfl (vQ HT_.out kr_) (fun _ _ _ h => h) (Or.inl ⟨by rfl, ?_⟩) ?_ ?_
           rotate_left
           ·
            intro w'
            go_simp
            with_reducible rfl
           rotate_left
           ·
            simp only [Act.put, ss_, jk, jo]
            rfl
           refine one_ (i := 7) (N := some 40) #[true, true, true, true, true, true, true, true, true, true, true, true, true, true, true, false, false, false, false] rfl rfl (jAK HT_.out kr_) (by decide) (fun K hK => ?_)
           refine jBJ Try.func21 kr_ rfl #[.int .u64 (IntKind.u64.wrap (Int.tdiv (rd l0 0) (rd l1 0)))] (by rfl) rfl rfl mt_ ?_
           with_reducible refine (zG.calls kj8 (IntKind.u64.wrap (Int.tdiv (rd l0 0) (rd l1 0))) t536 _ A15.out).mono ?_
           rintro e w18 ⟨v537, rfl, ho0, hb⟩
           refine ⟨_, rfl, ?_⟩
           have n0_ := jA.mk (Kd.jS ho0 (jB (bb_ HB)))
           have n1_ := jA.mk (jC (bb_ HB) hb)
           clear HB
           have HO538 := n0_
           have HB := n1_
           clear n0_ n1_
           (try clear hb)
           (try clear hb2)
           (try clear hk)
           (try clear hi)
           (try clear ho0)
           refine hK.out _ _ ⟨((HB.out.cell (World.block_lt_of_cell? w _ hw534_0)).trans hw534_0), ((HB.out.cell (World.block_lt_of_cell? w _ hw535_0)).trans hw535_0), ((HB.out.cell (World.block_lt_of_cell? w _ hw539_0)).trans hw539_0), ((HB.out.cell (World.block_lt_of_cell? w _ hw540_0)).trans hw540_0)⟩ (fun hHeld => ?_)
           clear hK K
           refine qO (a' := ?_) ?_ ?_
           rotate_left
           ·
            show Act.put _ (some 40) _ = _
            simp only [Act.put, ss_, jk, jo]
            rfl
           refine one_ (i := 15) (N := some 48) #[true, true, true, true, true, true, true, true, true, true, true, true, true, true, true, true, false, false, false] rfl rfl (jAK HT_.out kr_) (by decide) (fun K hK => ?_)
           refine jBJ Try.func21 kr_ rfl #[.int .u64 (Int.tmod (rd l0 0) (rd l1 0))] (by rfl) rfl rfl mt_ ?_
           with_reducible refine (zG.calls kj8 (Int.tmod (rd l0 0) (rd l1 0)) t541 _ A16.out).mono ?_
           rintro e w19 ⟨v542, rfl, ho0, hb⟩
           refine ⟨_, rfl, ?_⟩
           have n0_ := jA.mk (Kd.jK (rR_ HO538) (Kd.jL ho0) hb)
           have n1_ := jA.mk (Kd.jS (Kd.jN ho0 (Kd.R_lt (rR_ HO538))) (jB (bb_ HB)))
           have n2_ := jA.mk (jC (bb_ HB) hb)
           clear HO538
           clear HB
           have HO538 := n0_
           have HO543 := n1_
           have HB := n2_
           clear n0_ n1_ n2_
           (try clear hb)
           (try clear hb2)
           (try clear hk)
           (try clear hi)
           (try clear ho0)
           refine hK.out _ _ ⟨((HB.out.cell (World.block_lt_of_cell? w _ hw534_0)).trans hw534_0), ((HB.out.cell (World.block_lt_of_cell? w _ hw535_0)).trans hw535_0), ((HB.out.cell (World.block_lt_of_cell? w _ hw539_0)).trans hw539_0), ((HB.out.cell (World.block_lt_of_cell? w _ hw540_0)).trans hw540_0)⟩ (fun hHeld => ?_)
           clear hK K
           refine qO (a' := ?_) ?_ ?_
           rotate_left
           ·
            show Act.put _ (some 48) _ = _
            simp only [Act.put, ss_, jk, jo]
            rfl
           refine vU (i := 16) (N := some 4) (v := ?_) (a' := ?_) #[true, true, true, true, true, true, true, true, true, true, true, true, true, true, true, true, true, false, false] rfl rfl (vQ HT_.out kr_) (fun _ _ _ h => h) (Or.inl ⟨by rfl, ?_⟩) ?_ ?_
           rotate_left
           ·
            intro w'
            go_simp
            with_reducible rfl
           rotate_left
           ·
            simp only [Act.put, ss_, jk, jo]
            rfl
           refine vU (i := 17) (N := some 5) (v := ?_) (a' := ?_) #[true, true, true, true, true, true, true, true, true, true, true, true, true, true, true, true, true, true, false] rfl rfl (vQ HT_.out kr_) (fun _ _ _ h => h) (Or.inl ⟨by rfl, ?_⟩) ?_ ?_
           rotate_left
           ·
            intro w'
            go_simp
            with_reducible rfl
           rotate_left
           ·
            simp only [Act.put, ss_, jk, jo]
            rfl
           refine vU (i := 18) (N := some 6) (v := ?_) (a' := ?_) #[true, true, true, true, true, true, true, true, true, true, true, true, true, true, true, true, true, true, true] rfl rfl (vQ HT_.out kr_) (fun _ _ _ h => h) (Or.inl ⟨by rfl, ?_⟩) ?_ ?_
           rotate_left
           ·
            intro w'
            go_simp
            with_reducible rfl
           rotate_left
           ·
            simp only [Act.put, ss_, jk, jo]
            rfl
           refine jBW (jBK HT_.out kr_) ?_
           try go_wp2
           go_ret3
           exact ⟨_, _, ew_, by refine pR_ ?_; exact Kd.jP HO538.out (fun _ hk => hk.2), by refine pR_ ?_; exact Kd.jP HO543.out (fun _ hk => hk.2), (bb_ HB)⟩
         ·
          rw [if_neg c13] at H
          exact absurd H (by simp)
        ·
         rw [if_neg c12] at H
         exact absurd H (by simp)
       ·
        replace c11 := Bool.eq_false_iff.mpr c11
        subst c11
        have H1 : ((jH.f kj8 l0).bind fun t544 => (jD.l0 kj8 l1 t544 (([] : List Int)) 0)) = some (r1, r2, r3) := by rw [if_neg (show ¬ (false = true) by decide)] at H; exact H
        clear H
        have H := H1
        clear H1
        replace H := ob_ H
        obtain ⟨t544, A200, H⟩ := H
        try dsimp only at H
        have A20 := jA.mk A200
        clear A200
        obtain ⟨y547, hy547⟩ : ∃ y_ : List Int, y_ = (([] : List Int)) := ⟨_, rfl⟩
        replace H : (jD.l0 kj8 l1 t544 y547 0) = some (r1, r2, r3) := by first | (rw [hy547]; with_reducible exact H) | (have H2_ := (Option.bind_some _ _).symm.trans H; rw [hy547]; with_reducible exact H2_) | (with_reducible exact hs_ H) | with_reducible exact H | (rw [hy547]; exact H) | exact H
        have Ny547 := jA.mk hy547
        clear hy547
        have H' := jA.mk H
        clear H
        go_wp2_with (first | ((with_reducible refine jJ (f := 68) rfl ?_); refine jr (some 50) rfl rfl Try.func68 kr_ rfl #[.slice A0 l0.length c0] rfl mt_ ?_; (with_reducible refine (jH.calls kj8 _ _ l0 t544 _ ?side1 ?side2 A20.out).mono ?_); (case side1 => exact cc_ (Kd.je HR0.out HB.out)); (case side2 => exact HC0.out); rintro e w21 ⟨v545, rfl, ho0, hb⟩; refine ⟨_, rfl, ?_⟩; have n0_ := jA.mk (Kd.jS ho0 (jB (bb_ HB))); have n1_ := jA.mk (jC (bb_ HB) hb); clear HB; have HO546 := n0_; have HB := n1_; clear n0_ n1_) | ((with_reducible refine jl (N := 51) rfl ?_); (try (refine jv (by rfl) ?_; dsimp only)); refine Kd.jAC (Kd.int .u64) _ 22 ?hg (N := 51) ?hd (xs := ([] : List Int)) (inner := []) (ok := fun _ => True) (okp := fun _ => True) ?hr ?hp (fun _ hk => hk) trivial (Below.refl _ _) (Nat.le_refl _) (by simp) ?_; (case hd => rfl); (case hg => rfl); (case hr => exact gs_); (case hp => exact (Reps.none _ _)); intro v548 w22 ho23 hb hg_ hnew_; clear hg_ hnew_; (first | rw [← Ny547.out] at ho23 | (simp only [Int.reduceToNat] at ho23; rw [← Ny547.out] at ho23)); have n0_ := jA.mk (Kd.jK (rR_ HO546) (Kd.jL ho23) hb); have n1_ := jA.mk (Kd.jS (Kd.jN ho23 (Kd.R_lt (rR_ HO546))) (jB (bb_ HB))); have n2_ := jA.mk (jC (bb_ HB) hb); clear HO546 HB; have HO546 := n0_; have HO549 := n1_; have HB := n2_; clear n0_ n1_ n2_ hb ho23))
        go_loopg [8, 9] kj8 (fun kq v8 v9 w' => ∃ (x8_3 : List Int) (x9_3 : Int), v9 = .int .i64 x9_3 ∧ jA (jD.l0 kq l1 t544 x8_3 x9_3 = some (r1, r2, r3)) ∧ jA (kq ≤ kj8) ∧ jA (Kd.R (Kd.int .u64) 22 w' w.heap.size (fun k_ => some k_ ≠ (v8 : Value).ownBlock) v545 t544) ∧ jA (Kd.R (Kd.int .u64) 22 w' w.heap.size (fun k_ => some k_ ≠ (v545 : Value).ownBlock) v8 x8_3) ∧ jA (Below w.heap.size w w'))
        case atStart => exact ⟨(y547), (0), sd_, H', ⟨Nat.le_refl _⟩, ⟨by (with_reducible repeat (first | apply Kd.zQ | apply Kd.zU | apply Kd.ze)); exact Kd.jP HO546.out (fun _ hk => hk.2)⟩, ⟨by (with_reducible repeat (first | apply Kd.zQ | apply Kd.zU | apply Kd.ze)); exact Kd.jP HO549.out (fun _ hk => hk.2)⟩, ⟨(bb_ HB)⟩⟩
        case round =>
         clear H'
         try clear c1
         try clear c2
         try clear p2
         try clear c5
         try clear p5
         try clear q5
         try clear hx5
         try clear qi5
         try clear c6
         try clear c7
         try clear c8
         try clear c8b0
         try clear c8b1
         try clear c8b2
         try clear c10
         try clear c10b0
         try clear c10b1
         try clear c11
         try clear c12
         try clear c12b0
         try clear c12b1
         try clear c13
         try clear c13b0
         try clear c13b1
         try clear c14
         try clear c14b0
         try clear c14b1
         try clear c21
         try clear hx534_0
         try clear hx535_0
         try clear hx539_0
         try clear hx540_0
         try clear p2
         try clear p534
         try clear p535
         try clear p539
         try clear p540
         try clear q534
         try clear q535
         try clear q539
         try clear q540
         obtain ⟨x8_3, x9_3, rfl, HA, HK3, HO_7, HO_8, HB⟩ := hrel
         cases gk with
         | zero => exact absurd HA.out (by simp [jD.l0])
         | succ k3 =>
          have H := HA.out
          clear HA
          simp only [jD.l0] at H
          by_cases c24 : x9_3 < (t544.length : Int)
          ·
           rw [if_pos c24] at H
           have c24b0 := decide_eq_true c24
           clear c24
           by_cases c25 : x8_3.length < 17592186044416
           ·
            rw [if_pos c25] at H
            have LMc25 := jA.mk c25
            clear c25
            obtain ⟨y550, hy550⟩ : ∃ y_ : List Int, y_ = (x8_3 ++ [0]) := ⟨_, rfl⟩
            replace H : (jD.l0 k3 l1 t544 y550 (wrap64 (x9_3 + 1))) = some (r1, r2, r3) := by first | (rw [hy550]; with_reducible exact H) | (have H2_ := (Option.bind_some _ _).symm.trans H; rw [hy550]; with_reducible exact H2_) | (with_reducible exact hs_ H) | with_reducible exact H | (rw [hy550]; exact H) | exact H
            have Ny550 := jA.mk hy550
            clear hy550
            have H' := jA.mk H
            clear H
            obtain ⟨Ao26, co26, eo26⟩ := Kd.jc HO_7.out
            subst eo26
            go_wp2_with (first | ((with_reducible refine vw (b := .append) (xs := #[.tmp 58, .tmp 59]) rfl ?_); (try (refine jv (by rfl) ?_; dsimp only)); at_builtin; refine Kd.qc (Kd.int .u64) (w0 := w) w.heap.size rfl (.tmp 58) (.tmp 59) 35 22 (.int .u64 0) 8 rfl Try.underlying35 qJ rfl (by decide) (by omega) u8 x8_3 0 [.int .u64 0] (fun k_ => some k_ ≠ (.slice Ao26 t544.length co26 : Value).ownBlock) (fun _ => False) rfl rfl ?aP (fun _ hk => hk.elim) ?aF ?aO ?aB ?aS ?aL ?_; (case aP => exact rfl); (case aB => exact (bb_ HB)); (case aF => exact (fun k_ hk => Kd.fresh' (Kd.R_lt (rR_ HO_7)) k_ hk)); (case aO => exact (rR_ HO_8)); (case aS => exact (jB (bb_ HB))); (case aL => have := LMc25.out; omega); intro v551 w27 ho hb hg hat; rw [← Ny550.out] at ho; have n0_ := jA.mk (Kd.zX (ok := (fun _ => True)) (by refine pR_ ?_; exact Kd.jP HO_7.out (fun _ hk => ⟨trivial, hk⟩)) hg hat); have n1_ := jA.mk (hb); have n2_ := jA.mk (ho); clear HO_7 HB HO_8; have HO_7 := n0_; have HB := n1_; have HO552 := n2_; clear n0_ n1_ n2_ ho hb hg hat))
            go_roundg k3
            case measure => have := HJ2.out; have := HJ8.out; have := HK3.out; omega
            case rel => exact ⟨(y550), (wrap64 (x9_3 + 1)), sd_, H', ⟨by have := HJ2.out; have := HJ8.out; have := HK3.out; omega⟩, ⟨by (with_reducible repeat (first | apply Kd.zQ | apply Kd.zU | apply Kd.ze)); exact Kd.jP HO_7.out (fun _ hk => hk.2)⟩, ⟨(rR_ HO552)⟩, ⟨(bb_ HB)⟩⟩
           ·
            rw [if_neg c25] at H
            exact absurd H (by simp)
          ·
           rw [if_neg c24] at H
           have c24b0 := decide_eq_false c24
           clear c24
           obtain ⟨y553, hy553⟩ : ∃ y_ : List Int, y_ = (([] : List Int)) := ⟨_, rfl⟩
           replace H : (jD.l1 k3 l1 t544 x8_3 y553 (wrap64 ((t544.length : Int) - 1))) = some (r1, r2, r3) := by first | (rw [hy553]; with_reducible exact H) | (have H2_ := (Option.bind_some _ _).symm.trans H; rw [hy553]; with_reducible exact H2_) | (with_reducible exact hs_ H) | with_reducible exact H | (rw [hy553]; exact H) | exact H
           have Ny553 := jA.mk hy553
           clear hy553
           have H' := jA.mk H
           clear H
           obtain ⟨Ao28, co28, eo28⟩ := Kd.jc HO_7.out
           subst eo28
           go_wp2_with (first | ((with_reducible refine jl (N := 61) rfl ?_); (try (refine jv (by rfl) ?_; dsimp only)); refine Kd.jAC (Kd.int .u64) _ 22 ?hg (N := 61) ?hd (xs := ([] : List Int)) (inner := []) (ok := fun _ => True) (okp := fun _ => True) ?hr ?hp (fun _ hk => hk) trivial (Below.refl _ _) (Nat.le_refl _) (by simp) ?_; (case hd => rfl); (case hg => rfl); (case hr => exact gs_); (case hp => exact (Reps.none _ _)); intro v554 w29 ho30 hb hg_ hnew_; clear hg_ hnew_; (first | rw [← Ny553.out] at ho30 | (simp only [Int.reduceToNat] at ho30; rw [← Ny553.out] at ho30)); have n0_ := jA.mk (Kd.jK (rR_ HO_7) (Kd.jL ho30) hb); have n1_ := jA.mk (Kd.jK (rR_ HO_8) (Kd.jL ho30) hb); have n2_ := jA.mk (Kd.jS (Kd.jN (Kd.jN ho30 (Kd.R_lt (rR_ HO_7))) (Kd.R_lt (rR_ HO_8))) (jB (bb_ HB))); have n3_ := jA.mk (jC (bb_ HB) hb); clear HO_7 HO_8 HB; have HO_7 := n0_; have HO_8 := n1_; have HO555 := n2_; have HB := n3_; clear n0_ n1_ n2_ n3_ hb ho30))
           go_loopg [10, 11] k3 (fun kq v10 v11 w' => ∃ (x8_4 : List Int) (x10_4 : List Int) (x11_4 : Int), v11 = .int .i64 x11_4 ∧ jA (jD.l1 kq l1 t544 x8_4 x10_4 x11_4 = some (r1, r2, r3)) ∧ jA (kq ≤ k3) ∧ jA (Kd.R (Kd.int .u64) 22 w' w.heap.size (fun k_ => some k_ ≠ (u8 : Value).ownBlock ∧ some k_ ≠ (v10 : Value).ownBlock) (.slice Ao28 t544.length co28) t544) ∧ jA (Kd.R (Kd.int .u64) 22 w' w.heap.size (fun k_ => some k_ ≠ ((.slice Ao28 t544.length co28) : Value).ownBlock ∧ some k_ ≠ (v10 : Value).ownBlock) u8 x8_4) ∧ jA (Kd.R (Kd.int .u64) 22 w' w.heap.size (fun k_ => some k_ ≠ ((.slice Ao28 t544.length co28) : Value).ownBlock ∧ some k_ ≠ (u8 : Value).ownBlock) v10 x10_4) ∧ jA (Below w.heap.size w w'))
           case atStart => exact ⟨(x8_3), (y553), (wrap64 ((t544.length : Int) - 1)), sd_, H', ⟨Nat.le_refl _⟩, ⟨(rR_ HO_7)⟩, ⟨(rR_ HO_8)⟩, ⟨by (with_reducible repeat (first | apply Kd.zQ | apply Kd.zU | apply Kd.ze)); exact Kd.jP HO555.out (fun _ hk => ⟨hk.1.2, hk.2⟩)⟩, ⟨(bb_ HB)⟩⟩
           case round =>
            clear H'
            try clear c1
            try clear c2
            try clear p2
            try clear c5
            try clear p5
            try clear q5
            try clear hx5
            try clear qi5
            try clear c6
            try clear p6
            try clear c7
            try clear c8
            try clear c8b0
            try clear c8b1
            try clear c8b2
            try clear c10
            try clear c10b0
            try clear c10b1
            try clear c11
            try clear c12
            try clear c12b0
            try clear c12b1
            try clear c13
            try clear c13b0
            try clear c13b1
            try clear c14
            try clear c14b0
            try clear c14b1
            try clear c21
            try clear c24
            try clear c24b0
            try clear c25
            try clear hx534_0
            try clear hx535_0
            try clear hx539_0
            try clear hx540_0
            try clear p2
            try clear p5
            try clear p534
            try clear p535
            try clear p539
            try clear p540
            try clear q5
            try clear q534
            try clear q535
            try clear q539
            try clear q540
            obtain ⟨x8_4, x10_4, x11_4, rfl, HA, HK4, HO_7, HO_8, HO_10, HB⟩ := hrel
            cases gk with
            | zero => exact absurd HA.out (by simp [jD.l1])
            | succ k4 =>
             have H := HA.out
             clear HA
             simp only [jD.l1] at H
             by_cases c31 : x11_4 ≥ 0
             ·
              rw [if_pos c31] at H
              have c31b0 := decide_eq_true c31
              clear c31
              obtain ⟨y559, hy559⟩ : ∃ y_ : List Int, y_ = (([4294967296] : List Int)) := ⟨_, rfl⟩
              replace H : ((jG.f k4 x10_4 y559).bind fun t562 => (if 0 ≤ x11_4 then (if x11_4 < (t544.length : Int) then ((jQ.f k4 t562 (([rd t544 x11_4] : List Int))).bind fun t569 => ((jR.f k4 t569 l1).bind fun t572 => (if t572 ≥ 0 then ((jX.f k4 t569 l1).bind fun t573 => (if x11_4 < (x8_4.length : Int) then ((some (x8_4.set (x11_4 : Int).toNat t573 : List Int)).bind fun y574 => ((jG.f k4 l1 (([rd y574 x11_4] : List Int))).bind fun t579 => ((jZ.f k4 t569 t579).bind fun bt582 => (jD.l1 k4 l1 t544 y574 bt582.1 (wrap64 (x11_4 - 1)))))) else (none))) else (jD.l1 k4 l1 t544 x8_4 t569 (wrap64 (x11_4 - 1)))))) else (none)) else (none))) = some (r1, r2, r3) := by first | (rw [hy559]; with_reducible exact H) | (have H2_ := (Option.bind_some _ _).symm.trans H; rw [hy559]; with_reducible exact H2_) | (with_reducible exact hs_ H) | with_reducible exact H | (rw [hy559]; exact H) | exact H
              have Ny559 := jA.mk hy559
              clear hy559
              replace H := ob_ H
              obtain ⟨t562, A320, H⟩ := H
              try dsimp only at H
              have A32 := jA.mk A320
              clear A320
              by_cases c33 : 0 ≤ x11_4
              ·
               rw [if_pos c33] at H
               have c33b0 := decide_eq_true c33
               clear c33
               by_cases c34 : x11_4 < (t544.length : Int)
               ·
                rw [if_pos c34] at H
                have c34b0 := decide_eq_true c34
                clear c34
                obtain ⟨y566, hy566⟩ : ∃ y_ : List Int, y_ = (([rd t544 x11_4] : List Int)) := ⟨_, rfl⟩
                replace H : ((jQ.f k4 t562 y566).bind fun t569 => ((jR.f k4 t569 l1).bind fun t572 => (if t572 ≥ 0 then ((jX.f k4 t569 l1).bind fun t573 => (if x11_4 < (x8_4.length : Int) then ((some (x8_4.set (x11_4 : Int).toNat t573 : List Int)).bind fun y574 => ((jG.f k4 l1 (([rd y574 x11_4] : List Int))).bind fun t579 => ((jZ.f k4 t569 t579).bind fun bt582 => (jD.l1 k4 l1 t544 y574 bt582.1 (wrap64 (x11_4 - 1)))))) else (none))) else (jD.l1 k4 l1 t544 x8_4 t569 (wrap64 (x11_4 - 1)))))) = some (r1, r2, r3) := by first | (rw [hy566]; with_reducible exact H) | (have H2_ := (Option.bind_some _ _).symm.trans H; rw [hy566]; with_reducible exact H2_) | (with_reducible exact hs_ H) | with_reducible exact H | (rw [hy566]; exact H) | exact H
                have Ny566 := jA.mk hy566
                clear hy566
                replace H := ob_ H
                obtain ⟨t569, A350, H⟩ := H
                try dsimp only at H
                have A35 := jA.mk A350
                clear A350
                replace H := ob_ H
                obtain ⟨t572, A360, H⟩ := H
                try dsimp only at H
                have A36 := jA.mk A360
                clear A360
                by_cases c37 : t572 ≥ 0
                ·
                 rw [if_pos c37] at H
                 have c37b0 := decide_eq_true c37
                 clear c37
                 replace H := ob_ H
                 obtain ⟨t573, A380, H⟩ := H
                 try dsimp only at H
                 have A38 := jA.mk A380
                 clear A380
                 by_cases c39 : x11_4 < (x8_4.length : Int)
                 ·
                  rw [if_pos c39] at H
                  have c39b0 := decide_eq_true c39
                  clear c39
                  obtain ⟨y574, hy574⟩ : ∃ y_ : List Int, y_ = (x8_4.set (x11_4 : Int).toNat t573) := ⟨_, rfl⟩
                  replace H : ((jG.f k4 l1 (([rd y574 x11_4] : List Int))).bind fun t579 => ((jZ.f k4 t569 t579).bind fun bt582 => (jD.l1 k4 l1 t544 y574 bt582.1 (wrap64 (x11_4 - 1))))) = some (r1, r2, r3) := by first | (rw [hy574]; with_reducible exact H) | (have H2_ := (Option.bind_some _ _).symm.trans H; rw [hy574]; with_reducible exact H2_) | (with_reducible exact hs_ H) | with_reducible exact H | (rw [hy574]; exact H) | exact H
                  have Ny574 := jA.mk hy574
                  clear hy574
                  obtain ⟨y576, hy576⟩ : ∃ y_ : List Int, y_ = (([rd y574 x11_4] : List Int)) := ⟨_, rfl⟩
                  replace H : ((jG.f k4 l1 y576).bind fun t579 => ((jZ.f k4 t569 t579).bind fun bt582 => (jD.l1 k4 l1 t544 y574 bt582.1 (wrap64 (x11_4 - 1))))) = some (r1, r2, r3) := by first | (rw [hy576]; with_reducible exact H) | (have H2_ := (Option.bind_some _ _).symm.trans H; rw [hy576]; with_reducible exact H2_) | (with_reducible exact hs_ H) | with_reducible exact H | (rw [hy576]; exact H) | exact H
                  have Ny576 := jA.mk hy576
                  clear hy576
                  replace H := ob_ H
                  obtain ⟨t579, A410, H⟩ := H
                  try dsimp only at H
                  have A41 := jA.mk A410
                  clear A410
                  replace H := ob_ H
                  obtain ⟨⟨t582, t583⟩, A420, H⟩ := H
                  try dsimp only at H
                  have A42 := jA.mk A420
                  clear A420
                  have H' := jA.mk H
                  clear H
                  obtain ⟨Ao43, co43, eo43⟩ := Kd.jc HO_10.out
                  subst eo43
                  try go_wp2
                  have n0_ := jA.mk (Kd.ze HO_7.out)
                  have n1_ := jA.mk (Kd.ze HO_8.out)
                  have n2_ := jA.mk (Kd.ze HO_10.out)
                  have n3_ := jA.mk (qI HB.out)
                  clear HO_7
                  clear HO_8
                  clear HO_10
                  clear HB
                  have HO_7 := n0_
                  have HO_8 := n1_
                  have HO_10 := n2_
                  have HB := n3_
                  clear n0_ n1_ n2_ n3_
                  have p565 : 0 ≤ (x11_4 : Int) := of_decide_eq_true am_
                  have q565 : x11_4 < (t544.length : Int) := of_decide_eq_true am_
                  obtain ⟨ad565, e565, hx565_0⟩ := Kd.zF (Kd.jI HO_7.out).2.2 x11_4 p565 q565
                  cases e565
                  replace p565 := eq_true p565
                  replace q565 := eq_true q565
                  refine jAs (n := 10) (S := fun w' => w'.cell? (ad565.add (x11_4).toNat) = some (.int .u64 (rd t544 x11_4))) (ds := []) #[false, false, false, false, false, false, false, false, false, false] kr_ rfl rfl (hx565_0) (fun hHeld => ?_); refine jAa jD.jIx jD.jHn (fun HT_ HW_ => ?_)
                  generalize wr.drew = w44 at HO_7 HO_8 HO_10 HB hx565_0 hHeld ⊢
                  refine vU (i := 0) (N := some 69) (v := ?_) (a' := ?_) #[true, false, false, false, false, false, false, false, false, false] rfl rfl (vQ HT_.out kr_) (fun _ _ _ h => h) (Or.inl ⟨by rfl, ?_⟩) ?_ ?_
                  rotate_left
                  ·
                   intro w'
                   go_simp
                   with_reducible rfl
                  rotate_left
                  ·
                   simp only [Act.put, ss_, jk, jo]
                   rfl
                  refine vU (i := 3) (N := some 72) (v := ?_) (a' := ?_) #[true, false, false, true, false, false, false, false, false, false] rfl rfl (vQ HT_.out kr_) (fun _ _ _ h => h) (Or.inl ⟨by rfl, ?_⟩) ?_ ?_
                  rotate_left
                  ·
                   intro w'
                   go_simp
                   with_reducible rfl
                  rotate_left
                  ·
                   simp only [Act.put, ss_, jk, jo]
                   rfl
                  refine vU (i := 4) (N := some 73) (v := ?_) (a' := ?_) #[true, false, false, true, true, false, false, false, false, false] rfl rfl (vQ HT_.out kr_) (fun _ _ _ h => h) (Or.inl ⟨by rfl, ?_⟩) ?_ ?_
                  rotate_left
                  ·
                   intro w'
                   go_simp
                   with_reducible rfl
                  rotate_left
                  ·
                   simp only [Act.put, ss_, jk, jo]
                   rfl
                  refine vU (i := 5) (N := some 74) (v := ?_) (a' := ?_) #[true, false, false, true, true, true, false, false, false, false] rfl rfl (vQ HT_.out kr_) (fun _ _ _ h => h) (Or.inl ⟨by rfl, ?_⟩) ?_ ?_
                  rotate_left
                  ·
                   intro w'
                   go_simp
                   with_reducible rfl
                  rotate_left
                  ·
                   simp only [Act.put, ss_, jk, jo]
                   rfl
                  refine qw (i := 6) (N := some 75) (v := ?_) (a' := ?_) #[true, false, false, true, true, true, true, false, false, false] rfl rfl (qZ HT_.out HW_.out kr_) (fun _ _ _ h => h) (Or.inl ⟨by rfl, ?_⟩) hHeld ?_ ?_
                  rotate_left
                  ·
                   intro w' s0
                   go_simp
                   with_reducible rfl
                  rotate_left
                  ·
                   simp only [Act.put, ss_, jk, jo]
                   rfl
                  refine jJV (σ := Value × Value × Value) 2 #[true, true, true, true, true, true, true, true, false, false] (fun s_ => [(70, s_.1), (71, s_.2.1), (76, s_.2.2)]) (fun s_ w' => (w'.cell? (ad565.add (x11_4).toNat) = some (.int .u64 (rd t544 x11_4))) ∧ (Kd.R (Kd.int .u64) 22 w' w.heap.size (fun k_ => some k_ ≠ (s_.2.1 : Value).ownBlock ∧ some k_ ≠ (s_.2.2 : Value).ownBlock ∧ some k_ ≠ (.slice Ao43 x10_4.length co43 : Value).ownBlock ∧ some k_ ≠ (.slice (some ad565) t544.length co28 : Value).ownBlock ∧ some k_ ≠ (u8 : Value).ownBlock) s_.1 y559) ∧ (Kd.R (Kd.int .u64) 22 w' w.heap.size (fun k_ => some k_ ≠ (s_.1 : Value).ownBlock ∧ some k_ ≠ (s_.2.2 : Value).ownBlock ∧ some k_ ≠ (.slice Ao43 x10_4.length co43 : Value).ownBlock ∧ some k_ ≠ (.slice (some ad565) t544.length co28 : Value).ownBlock ∧ some k_ ≠ (u8 : Value).ownBlock) s_.2.1 t562) ∧ (Kd.R (Kd.int .u64) 22 w' w.heap.size (fun k_ => some k_ ≠ (s_.1 : Value).ownBlock ∧ some k_ ≠ (s_.2.1 : Value).ownBlock ∧ some k_ ≠ (.slice Ao43 x10_4.length co43 : Value).ownBlock ∧ some k_ ≠ (.slice (some ad565) t544.length co28 : Value).ownBlock ∧ some k_ ≠ (u8 : Value).ownBlock) s_.2.2 y566) ∧ (Kd.R (Kd.int .u64) 22 w' w.heap.size (fun k_ => some k_ ≠ (s_.1 : Value).ownBlock ∧ some k_ ≠ (s_.2.1 : Value).ownBlock ∧ some k_ ≠ (s_.2.2 : Value).ownBlock ∧ some k_ ≠ (.slice (some ad565) t544.length co28 : Value).ownBlock ∧ some k_ ≠ (u8 : Value).ownBlock) (.slice Ao43 x10_4.length co43) x10_4) ∧ (Kd.R (Kd.int .u64) 22 w' w.heap.size (fun k_ => some k_ ≠ (s_.1 : Value).ownBlock ∧ some k_ ≠ (s_.2.1 : Value).ownBlock ∧ some k_ ≠ (s_.2.2 : Value).ownBlock ∧ some k_ ≠ (.slice Ao43 x10_4.length co43 : Value).ownBlock ∧ some k_ ≠ (u8 : Value).ownBlock) (.slice (some ad565) t544.length co28) t544) ∧ (Kd.R (Kd.int .u64) 22 w' w.heap.size (fun k_ => some k_ ≠ (s_.1 : Value).ownBlock ∧ some k_ ≠ (s_.2.1 : Value).ownBlock ∧ some k_ ≠ (s_.2.2 : Value).ownBlock ∧ some k_ ≠ (.slice Ao43 x10_4.length co43 : Value).ownBlock ∧ some k_ ≠ (.slice (some ad565) t544.length co28 : Value).ownBlock) u8 x8_4) ∧ (Below w.heap.size w w')) ?_ ?_
                  rotate_left
                  ·
                   intro hCont
                   refine two_ (i := 1) (j := 7) (Ni := some 70) (Nj := some 76) #[true, true, false, true, true, true, true, false, false, false] #[true, false, false, true, true, true, true, true, false, false] rfl rfl rfl rfl (jEd HT_.out kr_) (by decide) (by decide) (fun K hK => ?_) (fun K hK => ?_)
                   ·
                    skip
                    refine Kd.qd (Kd.int .u64) _ 22 ?hg (N := 70) ?hd (xs := ([4294967296] : List Int)) (inner := [.int .u64 4294967296]) (ok := fun _ => True) (okp := fun _ => True) ?hr ?hp (fun _ hk => hk) trivial (Below.refl _ _) (Nat.le_refl _) (by simp) ?_; (case hd => rfl); (case hg => rfl); (case hr => exact gs_); (case hp => exact (Reps.one (show Kd.M (Kd.int .u64) _ _ _ 4294967296 [.int .u64 4294967296] from rfl) (Reps.none _ _)))
                    intro v560 w45 ho46 hb hg_ hnew_
                    have HS0_ := (hb.cell (World.block_lt_of_cell? _ _ (hHeld))).trans (hHeld)
                    clear hg_ hnew_
                    (first | rw [← Ny559.out] at ho46 | (simp only [Int.reduceToNat] at ho46; rw [← Ny559.out] at ho46))
                    have n0_ := jA.mk (Kd.jK (rR_ HO_7) (Kd.jL ho46) hb)
                    have n1_ := jA.mk (Kd.jK (rR_ HO_8) (Kd.jL ho46) hb)
                    have n2_ := jA.mk (Kd.jK (rR_ HO_10) (Kd.jL ho46) hb)
                    have n3_ := jA.mk (Kd.jS (Kd.jN (Kd.jN (Kd.jN ho46 (Kd.R_lt (rR_ HO_7))) (Kd.R_lt (rR_ HO_8))) (Kd.R_lt (rR_ HO_10))) (jB (bb_ HB)))
                    have n4_ := jA.mk (jC (bb_ HB) hb)
                    clear HO_7
                    clear HO_8
                    clear HO_10
                    clear HB
                    have HO_7 := n0_
                    have HO_8 := n1_
                    have HO_10 := n2_
                    have HO561 := n3_
                    have HB := n4_
                    clear n0_ n1_ n2_ n3_ n4_
                    clear hb ho46
                    obtain ⟨Ao47, co47, eo47⟩ := Kd.jc HO561.out
                    (first | subst eo47 | (injection eo47 with f1_ f2_ f3_; have f4_ := f1_.symm; have f5_ := f3_.symm; clear f1_ f2_ f3_; subst f4_; subst f5_))
                    refine hK.out _ _ (HS0_) (fun hHeld => ?_)
                    clear hK K
                    refine qO (a' := ?_) ?_ ?_
                    rotate_left
                    ·
                     show Act.put _ (some 70) _ = _
                     simp only [Act.put, ss_, jk, jo]
                     rfl
                    refine two_ (i := 2) (j := 7) (Ni := some 71) (Nj := some 76) #[true, true, true, true, true, true, true, false, false, false] #[true, true, false, true, true, true, true, true, false, false] rfl rfl rfl rfl (jEd HT_.out kr_) (by decide) (by decide) (fun K hK => ?_) (fun K hK => ?_)
                    ·
                     skip
                     refine jBJ Try.func23 kr_ rfl #[.slice Ao43 x10_4.length co43, .slice Ao47 y559.length co47] (by rfl) rfl rfl mt_ ?_
                     with_reducible refine (jG.calls k4 _ _ x10_4 _ _ y559 t562 _ ?side1 ?side2 ?side3 ?side4 A32.out).mono ?_
                     (case side1 => exact cc_ (Kd.jI HO_10.out).2.2)
                     (case side2 => exact (Kd.jI HO_10.out).2.1)
                     (case side3 => exact cc_ (Kd.jI HO561.out).2.2)
                     (case side4 => exact (Kd.jI HO561.out).2.1)
                     rintro e w48 ⟨v563, rfl, ho0, hb⟩
                     have HS0_ := (hb.cell (World.block_lt_of_cell? _ _ (hHeld))).trans (hHeld)
                     refine ⟨_, rfl, ?_⟩
                     have n0_ := jA.mk (Kd.jK (rR_ HO_7) (Kd.jL ho0) hb)
                     have n1_ := jA.mk (Kd.jK (rR_ HO_8) (Kd.jL ho0) hb)
                     have n2_ := jA.mk (Kd.jK (rR_ HO_10) (Kd.jL ho0) hb)
                     have n3_ := jA.mk (Kd.jK (rR_ HO561) (Kd.jL ho0) hb)
                     have n4_ := jA.mk (Kd.jS (Kd.jN (Kd.jN (Kd.jN (Kd.jN ho0 (Kd.R_lt (rR_ HO_7))) (Kd.R_lt (rR_ HO_8))) (Kd.R_lt (rR_ HO_10))) (Kd.R_lt (rR_ HO561))) (jB (bb_ HB)))
                     have n5_ := jA.mk (jC (bb_ HB) hb)
                     clear HO_7
                     clear HO_8
                     clear HO_10
                     clear HO561
                     clear HB
                     have HO_7 := n0_
                     have HO_8 := n1_
                     have HO_10 := n2_
                     have HO561 := n3_
                     have HO564 := n4_
                     have HB := n5_
                     clear n0_ n1_ n2_ n3_ n4_ n5_
                     (try clear hb)
                     (try clear hb2)
                     (try clear hk)
                     (try clear hi)
                     (try clear ho0)
                     refine hK.out _ _ (HS0_) (fun hHeld => ?_)
                     clear hK K
                     refine qO (a' := ?_) ?_ ?_
                     rotate_left
                     ·
                      show Act.put _ (some 71) _ = _
                      simp only [Act.put, ss_, jk, jo]
                      rfl
                     refine one_ (i := 7) (N := some 76) #[true, true, true, true, true, true, true, true, false, false] rfl rfl (jAK HT_.out kr_) (by decide) (fun K hK => ?_)
                     refine Kd.qd (Kd.int .u64) _ 22 ?hg (N := 76) ?hd (xs := ([rd t544 x11_4] : List Int)) (inner := [.int .u64 (rd t544 x11_4)]) (ok := fun _ => True) (okp := fun _ => True) ?hr ?hp (fun _ hk => hk) trivial (Below.refl _ _) (Nat.le_refl _) (by simp) ?_; (case hd => rfl); (case hg => rfl); (case hr => exact gs_); (case hp => exact (Reps.one (show Kd.M (Kd.int .u64) _ _ _ (rd t544 x11_4) [.int .u64 (rd t544 x11_4)] from rfl) (Reps.none _ _)))
                     intro v567 w49 ho50 hb hg_ hnew_
                     have HS0_ := (hb.cell (World.block_lt_of_cell? _ _ (hHeld))).trans (hHeld)
                     clear hg_ hnew_
                     (first | rw [← Ny566.out] at ho50 | (simp only [Int.reduceToNat] at ho50; rw [← Ny566.out] at ho50))
                     have n0_ := jA.mk (Kd.jK (rR_ HO_7) (Kd.jL ho50) hb)
                     have n1_ := jA.mk (Kd.jK (rR_ HO_8) (Kd.jL ho50) hb)
                     have n2_ := jA.mk (Kd.jK (rR_ HO_10) (Kd.jL ho50) hb)
                     have n3_ := jA.mk (Kd.jK (rR_ HO561) (Kd.jL ho50) hb)
                     have n4_ := jA.mk (Kd.jK (rR_ HO564) (Kd.jL ho50) hb)
                     have n5_ := jA.mk (Kd.jS (Kd.jN (Kd.jN (Kd.jN (Kd.jN (Kd.jN ho50 (Kd.R_lt (rR_ HO_7))) (Kd.R_lt (rR_ HO_8))) (Kd.R_lt (rR_ HO_10))) (Kd.R_lt (rR_ HO561))) (Kd.R_lt (rR_ HO564))) (jB (bb_ HB)))
                     have n6_ := jA.mk (jC (bb_ HB) hb)
                     clear HO_7
                     clear HO_8
                     clear HO_10
                     clear HO561
                     clear HO564
                     clear HB
                     have HO_7 := n0_
                     have HO_8 := n1_
                     have HO_10 := n2_
                     have HO561 := n3_
                     have HO564 := n4_
                     have HO568 := n5_
                     have HB := n6_
                     clear n0_ n1_ n2_ n3_ n4_ n5_ n6_
                     clear hb ho50
                     refine hK.out _ _ (HS0_) (fun hHeld => ?_)
                     clear hK K
                     refine qO (a' := ?_) ?_ ?_
                     rotate_left
                     ·
                      show Act.put _ (some 76) _ = _
                      simp only [Act.put, ss_, jk, jo]
                      rfl
                     exact qO (by simp only [jBI, Act.put, ss_]) (hCont (.slice Ao47 y559.length co47, v563, v567) _ ⟨hHeld, (by refine pR_ ?_; exact Kd.jP HO561.out (fun _ hk => ⟨hk.1.2, ⟨hk.2, ⟨hk.1.1.2, ⟨hk.1.1.1.1.2, hk.1.1.1.2⟩⟩⟩⟩)), (by refine pR_ ?_; exact Kd.jP HO564.out (fun _ hk => ⟨hk.1.2, ⟨hk.2, ⟨hk.1.1.2, ⟨hk.1.1.1.1.2, hk.1.1.1.2⟩⟩⟩⟩)), (by refine pR_ ?_; exact Kd.jP HO568.out (fun _ hk => ⟨hk.1.2, ⟨hk.2, ⟨hk.1.1.2, ⟨hk.1.1.1.1.2, hk.1.1.1.2⟩⟩⟩⟩)), (by refine pR_ ?_; exact Kd.jP HO_10.out (fun _ hk => ⟨hk.1.1.2, ⟨hk.1.2, ⟨hk.2, ⟨hk.1.1.1.1, hk.1.1.1.2⟩⟩⟩⟩)), (by refine pR_ ?_; exact Kd.jP HO_7.out (fun _ hk => ⟨hk.1.1.2, ⟨hk.1.2, ⟨hk.2, ⟨hk.1.1.1.2, hk.1.1.1.1⟩⟩⟩⟩)), (by refine pR_ ?_; exact Kd.jP HO_8.out (fun _ hk => ⟨hk.1.1.2, ⟨hk.1.2, ⟨hk.2, ⟨hk.1.1.1.2, hk.1.1.1.1⟩⟩⟩⟩)), (bb_ HB)⟩)
                    ·
                     skip
                     refine Kd.qd (Kd.int .u64) _ 22 ?hg (N := 76) ?hd (xs := ([rd t544 x11_4] : List Int)) (inner := [.int .u64 (rd t544 x11_4)]) (ok := fun _ => True) (okp := fun _ => True) ?hr ?hp (fun _ hk => hk) trivial (Below.refl _ _) (Nat.le_refl _) (by simp) ?_; (case hd => rfl); (case hg => rfl); (case hr => exact gs_); (case hp => exact (Reps.one (show Kd.M (Kd.int .u64) _ _ _ (rd t544 x11_4) [.int .u64 (rd t544 x11_4)] from rfl) (Reps.none _ _)))
                     intro v567 w47 ho48 hb hg_ hnew_
                     have HS0_ := (hb.cell (World.block_lt_of_cell? _ _ (hHeld))).trans (hHeld)
                     clear hg_ hnew_
                     (first | rw [← Ny566.out] at ho48 | (simp only [Int.reduceToNat] at ho48; rw [← Ny566.out] at ho48))
                     have n0_ := jA.mk (Kd.jK (rR_ HO_7) (Kd.jL ho48) hb)
                     have n1_ := jA.mk (Kd.jK (rR_ HO_8) (Kd.jL ho48) hb)
                     have n2_ := jA.mk (Kd.jK (rR_ HO_10) (Kd.jL ho48) hb)
                     have n3_ := jA.mk (Kd.jK (rR_ HO561) (Kd.jL ho48) hb)
                     have n4_ := jA.mk (Kd.jS (Kd.jN (Kd.jN (Kd.jN (Kd.jN ho48 (Kd.R_lt (rR_ HO_7))) (Kd.R_lt (rR_ HO_8))) (Kd.R_lt (rR_ HO_10))) (Kd.R_lt (rR_ HO561))) (jB (bb_ HB)))
                     have n5_ := jA.mk (jC (bb_ HB) hb)
                     clear HO_7
                     clear HO_8
                     clear HO_10
                     clear HO561
                     clear HB
                     have HO_7 := n0_
                     have HO_8 := n1_
                     have HO_10 := n2_
                     have HO561 := n3_
                     have HO568 := n4_
                     have HB := n5_
                     clear n0_ n1_ n2_ n3_ n4_ n5_
                     clear hb ho48
                     obtain ⟨Ao49, co49, eo49⟩ := Kd.jc HO561.out
                     (first | subst eo49 | (injection eo49 with f1_ f2_ f3_; have f4_ := f1_.symm; have f5_ := f3_.symm; clear f1_ f2_ f3_; subst f4_; subst f5_))
                     refine hK.out _ _ (HS0_) (fun hHeld => ?_)
                     clear hK K
                     refine qO (a' := ?_) ?_ ?_
                     rotate_left
                     ·
                      show Act.put _ (some 76) _ = _
                      simp only [Act.put, ss_, jk, jo]
                      rfl
                     refine one_ (i := 2) (N := some 71) #[true, true, true, true, true, true, true, true, false, false] rfl rfl (jAK HT_.out kr_) (by decide) (fun K hK => ?_)
                     refine jBJ Try.func23 kr_ rfl #[.slice Ao43 x10_4.length co43, .slice Ao49 y559.length co49] (by rfl) rfl rfl mt_ ?_
                     with_reducible refine (jG.calls k4 _ _ x10_4 _ _ y559 t562 _ ?side1 ?side2 ?side3 ?side4 A32.out).mono ?_
                     (case side1 => exact cc_ (Kd.jI HO_10.out).2.2)
                     (case side2 => exact (Kd.jI HO_10.out).2.1)
                     (case side3 => exact cc_ (Kd.jI HO561.out).2.2)
                     (case side4 => exact (Kd.jI HO561.out).2.1)
                     rintro e w50 ⟨v563, rfl, ho0, hb⟩
                     have HS0_ := (hb.cell (World.block_lt_of_cell? _ _ (hHeld))).trans (hHeld)
                     refine ⟨_, rfl, ?_⟩
                     have n0_ := jA.mk (Kd.jK (rR_ HO_7) (Kd.jL ho0) hb)
                     have n1_ := jA.mk (Kd.jK (rR_ HO_8) (Kd.jL ho0) hb)
                     have n2_ := jA.mk (Kd.jK (rR_ HO_10) (Kd.jL ho0) hb)
                     have n3_ := jA.mk (Kd.jK (rR_ HO561) (Kd.jL ho0) hb)
                     have n4_ := jA.mk (Kd.jK (rR_ HO568) (Kd.jL ho0) hb)
                     have n5_ := jA.mk (Kd.jS (Kd.jN (Kd.jN (Kd.jN (Kd.jN (Kd.jN ho0 (Kd.R_lt (rR_ HO_7))) (Kd.R_lt (rR_ HO_8))) (Kd.R_lt (rR_ HO_10))) (Kd.R_lt (rR_ HO561))) (Kd.R_lt (rR_ HO568))) (jB (bb_ HB)))
                     have n6_ := jA.mk (jC (bb_ HB) hb)
                     clear HO_7
                     clear HO_8
                     clear HO_10
                     clear HO561
                     clear HO568
                     clear HB
                     have HO_7 := n0_
                     have HO_8 := n1_
                     have HO_10 := n2_
                     have HO561 := n3_
                     have HO568 := n4_
                     have HO564 := n5_
                     have HB := n6_
                     clear n0_ n1_ n2_ n3_ n4_ n5_ n6_
                     (try clear hb)
                     (try clear hb2)
                     (try clear hk)
                     (try clear hi)
                     (try clear ho0)
                     refine hK.out _ _ (HS0_) (fun hHeld => ?_)
                     clear hK K
                     refine qO (a' := ?_) ?_ ?_
                     rotate_left
                     ·
                      show Act.put _ (some 71) _ = _
                      simp only [Act.put, ss_, jk, jo]
                      rfl
                     exact qO (by simp only [jBI, Act.put, ss_]) (hCont (.slice Ao49 y559.length co49, v563, v567) _ ⟨hHeld, (by refine pR_ ?_; exact Kd.jP HO561.out (fun _ hk => ⟨hk.2, ⟨hk.1.2, ⟨hk.1.1.2, ⟨hk.1.1.1.1.2, hk.1.1.1.2⟩⟩⟩⟩)), (by refine pR_ ?_; exact Kd.jP HO564.out (fun _ hk => ⟨hk.1.2, ⟨hk.2, ⟨hk.1.1.2, ⟨hk.1.1.1.1.2, hk.1.1.1.2⟩⟩⟩⟩)), (by refine pR_ ?_; exact Kd.jP HO568.out (fun _ hk => ⟨hk.1.2, ⟨hk.2, ⟨hk.1.1.2, ⟨hk.1.1.1.1.2, hk.1.1.1.2⟩⟩⟩⟩)), (by refine pR_ ?_; exact Kd.jP HO_10.out (fun _ hk => ⟨hk.1.1.2, ⟨hk.2, ⟨hk.1.2, ⟨hk.1.1.1.1, hk.1.1.1.2⟩⟩⟩⟩)), (by refine pR_ ?_; exact Kd.jP HO_7.out (fun _ hk => ⟨hk.1.1.2, ⟨hk.2, ⟨hk.1.2, ⟨hk.1.1.1.2, hk.1.1.1.1⟩⟩⟩⟩)), (by refine pR_ ?_; exact Kd.jP HO_8.out (fun _ hk => ⟨hk.1.1.2, ⟨hk.2, ⟨hk.1.2, ⟨hk.1.1.1.2, hk.1.1.1.1⟩⟩⟩⟩)), (bb_ HB)⟩)
                   ·
                    skip
                    refine Kd.qd (Kd.int .u64) _ 22 ?hg (N := 76) ?hd (xs := ([rd t544 x11_4] : List Int)) (inner := [.int .u64 (rd t544 x11_4)]) (ok := fun _ => True) (okp := fun _ => True) ?hr ?hp (fun _ hk => hk) trivial (Below.refl _ _) (Nat.le_refl _) (by simp) ?_; (case hd => rfl); (case hg => rfl); (case hr => exact gs_); (case hp => exact (Reps.one (show Kd.M (Kd.int .u64) _ _ _ (rd t544 x11_4) [.int .u64 (rd t544 x11_4)] from rfl) (Reps.none _ _)))
                    intro v567 w45 ho46 hb hg_ hnew_
                    have HS0_ := (hb.cell (World.block_lt_of_cell? _ _ (hHeld))).trans (hHeld)
                    clear hg_ hnew_
                    (first | rw [← Ny566.out] at ho46 | (simp only [Int.reduceToNat] at ho46; rw [← Ny566.out] at ho46))
                    have n0_ := jA.mk (Kd.jK (rR_ HO_7) (Kd.jL ho46) hb)
                    have n1_ := jA.mk (Kd.jK (rR_ HO_8) (Kd.jL ho46) hb)
                    have n2_ := jA.mk (Kd.jK (rR_ HO_10) (Kd.jL ho46) hb)
                    have n3_ := jA.mk (Kd.jS (Kd.jN (Kd.jN (Kd.jN ho46 (Kd.R_lt (rR_ HO_7))) (Kd.R_lt (rR_ HO_8))) (Kd.R_lt (rR_ HO_10))) (jB (bb_ HB)))
                    have n4_ := jA.mk (jC (bb_ HB) hb)
                    clear HO_7
                    clear HO_8
                    clear HO_10
                    clear HB
                    have HO_7 := n0_
                    have HO_8 := n1_
                    have HO_10 := n2_
                    have HO568 := n3_
                    have HB := n4_
                    clear n0_ n1_ n2_ n3_ n4_
                    clear hb ho46
                    refine hK.out _ _ (HS0_) (fun hHeld => ?_)
                    clear hK K
                    refine qO (a' := ?_) ?_ ?_
                    rotate_left
                    ·
                     show Act.put _ (some 76) _ = _
                     simp only [Act.put, ss_, jk, jo]
                     rfl
                    refine one_ (i := 1) (N := some 70) #[true, true, false, true, true, true, true, true, false, false] rfl rfl (jAK HT_.out kr_) (by decide) (fun K hK => ?_)
                    refine Kd.qd (Kd.int .u64) _ 22 ?hg (N := 70) ?hd (xs := ([4294967296] : List Int)) (inner := [.int .u64 4294967296]) (ok := fun _ => True) (okp := fun _ => True) ?hr ?hp (fun _ hk => hk) trivial (Below.refl _ _) (Nat.le_refl _) (by simp) ?_; (case hd => rfl); (case hg => rfl); (case hr => exact gs_); (case hp => exact (Reps.one (show Kd.M (Kd.int .u64) _ _ _ 4294967296 [.int .u64 4294967296] from rfl) (Reps.none _ _)))
                    intro v560 w47 ho48 hb hg_ hnew_
                    have HS0_ := (hb.cell (World.block_lt_of_cell? _ _ (hHeld))).trans (hHeld)
                    clear hg_ hnew_
                    (first | rw [← Ny559.out] at ho48 | (simp only [Int.reduceToNat] at ho48; rw [← Ny559.out] at ho48))
                    have n0_ := jA.mk (Kd.jK (rR_ HO_7) (Kd.jL ho48) hb)
                    have n1_ := jA.mk (Kd.jK (rR_ HO_8) (Kd.jL ho48) hb)
                    have n2_ := jA.mk (Kd.jK (rR_ HO_10) (Kd.jL ho48) hb)
                    have n3_ := jA.mk (Kd.jK (rR_ HO568) (Kd.jL ho48) hb)
                    have n4_ := jA.mk (Kd.jS (Kd.jN (Kd.jN (Kd.jN (Kd.jN ho48 (Kd.R_lt (rR_ HO_7))) (Kd.R_lt (rR_ HO_8))) (Kd.R_lt (rR_ HO_10))) (Kd.R_lt (rR_ HO568))) (jB (bb_ HB)))
                    have n5_ := jA.mk (jC (bb_ HB) hb)
                    clear HO_7
                    clear HO_8
                    clear HO_10
                    clear HO568
                    clear HB
                    have HO_7 := n0_
                    have HO_8 := n1_
                    have HO_10 := n2_
                    have HO568 := n3_
                    have HO561 := n4_
                    have HB := n5_
                    clear n0_ n1_ n2_ n3_ n4_ n5_
                    clear hb ho48
                    obtain ⟨Ao49, co49, eo49⟩ := Kd.jc HO561.out
                    (first | subst eo49 | (injection eo49 with f1_ f2_ f3_; have f4_ := f1_.symm; have f5_ := f3_.symm; clear f1_ f2_ f3_; subst f4_; subst f5_))
                    refine hK.out _ _ (HS0_) (fun hHeld => ?_)
                    clear hK K
                    refine qO (a' := ?_) ?_ ?_
                    rotate_left
                    ·
                     show Act.put _ (some 70) _ = _
                     simp only [Act.put, ss_, jk, jo]
                     rfl
                    refine one_ (i := 2) (N := some 71) #[true, true, true, true, true, true, true, true, false, false] rfl rfl (jAK HT_.out kr_) (by decide) (fun K hK => ?_)
                    refine jBJ Try.func23 kr_ rfl #[.slice Ao43 x10_4.length co43, .slice Ao49 y559.length co49] (by rfl) rfl rfl mt_ ?_
                    with_reducible refine (jG.calls k4 _ _ x10_4 _ _ y559 t562 _ ?side1 ?side2 ?side3 ?side4 A32.out).mono ?_
                    (case side1 => exact cc_ (Kd.jI HO_10.out).2.2)
                    (case side2 => exact (Kd.jI HO_10.out).2.1)
                    (case side3 => exact cc_ (Kd.jI HO561.out).2.2)
                    (case side4 => exact (Kd.jI HO561.out).2.1)
                    rintro e w50 ⟨v563, rfl, ho0, hb⟩
                    have HS0_ := (hb.cell (World.block_lt_of_cell? _ _ (hHeld))).trans (hHeld)
                    refine ⟨_, rfl, ?_⟩
                    have n0_ := jA.mk (Kd.jK (rR_ HO_7) (Kd.jL ho0) hb)
                    have n1_ := jA.mk (Kd.jK (rR_ HO_8) (Kd.jL ho0) hb)
                    have n2_ := jA.mk (Kd.jK (rR_ HO_10) (Kd.jL ho0) hb)
                    have n3_ := jA.mk (Kd.jK (rR_ HO568) (Kd.jL ho0) hb)
                    have n4_ := jA.mk (Kd.jK (rR_ HO561) (Kd.jL ho0) hb)
                    have n5_ := jA.mk (Kd.jS (Kd.jN (Kd.jN (Kd.jN (Kd.jN (Kd.jN ho0 (Kd.R_lt (rR_ HO_7))) (Kd.R_lt (rR_ HO_8))) (Kd.R_lt (rR_ HO_10))) (Kd.R_lt (rR_ HO568))) (Kd.R_lt (rR_ HO561))) (jB (bb_ HB)))
                    have n6_ := jA.mk (jC (bb_ HB) hb)
                    clear HO_7
                    clear HO_8
                    clear HO_10
                    clear HO568
                    clear HO561
                    clear HB
                    have HO_7 := n0_
                    have HO_8 := n1_
                    have HO_10 := n2_
                    have HO568 := n3_
                    have HO561 := n4_
                    have HO564 := n5_
                    have HB := n6_
                    clear n0_ n1_ n2_ n3_ n4_ n5_ n6_
                    (try clear hb)
                    (try clear hb2)
                    (try clear hk)
                    (try clear hi)
                    (try clear ho0)
                    refine hK.out _ _ (HS0_) (fun hHeld => ?_)
                    clear hK K
                    refine qO (a' := ?_) ?_ ?_
                    rotate_left
                    ·
                     show Act.put _ (some 71) _ = _
                     simp only [Act.put, ss_, jk, jo]
                     rfl
                    exact qO (by simp only [jBI, Act.put, ss_]) (hCont (.slice Ao49 y559.length co49, v563, v567) _ ⟨hHeld, (by refine pR_ ?_; exact Kd.jP HO561.out (fun _ hk => ⟨hk.2, ⟨hk.1.2, ⟨hk.1.1.2, ⟨hk.1.1.1.1.2, hk.1.1.1.2⟩⟩⟩⟩)), (by refine pR_ ?_; exact Kd.jP HO564.out (fun _ hk => ⟨hk.2, ⟨hk.1.2, ⟨hk.1.1.2, ⟨hk.1.1.1.1.2, hk.1.1.1.2⟩⟩⟩⟩)), (by refine pR_ ?_; exact Kd.jP HO568.out (fun _ hk => ⟨hk.1.2, ⟨hk.2, ⟨hk.1.1.2, ⟨hk.1.1.1.1.2, hk.1.1.1.2⟩⟩⟩⟩)), (by refine pR_ ?_; exact Kd.jP HO_10.out (fun _ hk => ⟨hk.1.2, ⟨hk.2, ⟨hk.1.1.2, ⟨hk.1.1.1.1, hk.1.1.1.2⟩⟩⟩⟩)), (by refine pR_ ?_; exact Kd.jP HO_7.out (fun _ hk => ⟨hk.1.2, ⟨hk.2, ⟨hk.1.1.2, ⟨hk.1.1.1.2, hk.1.1.1.1⟩⟩⟩⟩)), (by refine pR_ ?_; exact Kd.jP HO_8.out (fun _ hk => ⟨hk.1.2, ⟨hk.2, ⟨hk.1.1.2, ⟨hk.1.1.1.2, hk.1.1.1.1⟩⟩⟩⟩)), (bb_ HB)⟩)
                  rintro ⟨v560, v563, v567⟩ w51 ⟨hS_, h0_, h1_, h2_, h3_, h4_, h5_, h6_⟩
                  have n0_ : jA (Kd.R (Kd.int .u64) 22 w51 w.heap.size (fun k_ => some k_ ≠ (v563 : Value).ownBlock ∧ some k_ ≠ (v567 : Value).ownBlock ∧ some k_ ≠ (.slice Ao43 x10_4.length co43 : Value).ownBlock ∧ some k_ ≠ (.slice (some ad565) t544.length co28 : Value).ownBlock ∧ some k_ ≠ (u8 : Value).ownBlock) v560 y559) := ⟨h0_⟩
                  have n1_ : jA (Kd.R (Kd.int .u64) 22 w51 w.heap.size (fun k_ => some k_ ≠ (v560 : Value).ownBlock ∧ some k_ ≠ (v567 : Value).ownBlock ∧ some k_ ≠ (.slice Ao43 x10_4.length co43 : Value).ownBlock ∧ some k_ ≠ (.slice (some ad565) t544.length co28 : Value).ownBlock ∧ some k_ ≠ (u8 : Value).ownBlock) v563 t562) := ⟨h1_⟩
                  have n2_ : jA (Kd.R (Kd.int .u64) 22 w51 w.heap.size (fun k_ => some k_ ≠ (v560 : Value).ownBlock ∧ some k_ ≠ (v563 : Value).ownBlock ∧ some k_ ≠ (.slice Ao43 x10_4.length co43 : Value).ownBlock ∧ some k_ ≠ (.slice (some ad565) t544.length co28 : Value).ownBlock ∧ some k_ ≠ (u8 : Value).ownBlock) v567 y566) := ⟨h2_⟩
                  have n3_ : jA (Kd.R (Kd.int .u64) 22 w51 w.heap.size (fun k_ => some k_ ≠ (v560 : Value).ownBlock ∧ some k_ ≠ (v563 : Value).ownBlock ∧ some k_ ≠ (v567 : Value).ownBlock ∧ some k_ ≠ (.slice (some ad565) t544.length co28 : Value).ownBlock ∧ some k_ ≠ (u8 : Value).ownBlock) (.slice Ao43 x10_4.length co43) x10_4) := ⟨h3_⟩
                  have n4_ : jA (Kd.R (Kd.int .u64) 22 w51 w.heap.size (fun k_ => some k_ ≠ (v560 : Value).ownBlock ∧ some k_ ≠ (v563 : Value).ownBlock ∧ some k_ ≠ (v567 : Value).ownBlock ∧ some k_ ≠ (.slice Ao43 x10_4.length co43 : Value).ownBlock ∧ some k_ ≠ (u8 : Value).ownBlock) (.slice (some ad565) t544.length co28) t544) := ⟨h4_⟩
                  have n5_ : jA (Kd.R (Kd.int .u64) 22 w51 w.heap.size (fun k_ => some k_ ≠ (v560 : Value).ownBlock ∧ some k_ ≠ (v563 : Value).ownBlock ∧ some k_ ≠ (v567 : Value).ownBlock ∧ some k_ ≠ (.slice Ao43 x10_4.length co43 : Value).ownBlock ∧ some k_ ≠ (.slice (some ad565) t544.length co28 : Value).ownBlock) u8 x8_4) := ⟨h5_⟩
                  have n6_ : jA (Below w.heap.size w w51) := ⟨h6_⟩
                  clear HO_7
                  clear HO_8
                  clear HO_10
                  clear HB
                  clear h0_ h1_ h2_ h3_ h4_ h5_ h6_
                  have HO561 := n0_
                  have HO564 := n1_
                  have HO568 := n2_
                  have HO_10 := n3_
                  have HO_7 := n4_
                  have HO_8 := n5_
                  have HB := n6_
                  clear n0_ n1_ n2_ n3_ n4_ n5_ n6_
                  have hHeld : w51.cell? (ad565.add (x11_4).toNat) = some (.int .u64 (rd t544 x11_4)) := hS_
                  obtain ⟨Ao52, co52, eo52⟩ := Kd.jc HO564.out
                  (first | subst eo52 | (injection eo52 with f1_ f2_ f3_; have f4_ := f1_.symm; have f5_ := f3_.symm; clear f1_ f2_ f3_; subst f4_; subst f5_))
                  obtain ⟨Ao53, co53, eo53⟩ := Kd.jc HO568.out
                  (first | subst eo53 | (injection eo53 with f1_ f2_ f3_; have f4_ := f1_.symm; have f5_ := f3_.symm; clear f1_ f2_ f3_; subst f4_; subst f5_))
                  refine qO (a' := ?_) ?_ ?_
                  rotate_left
                  ·
                   simp only [jBI, Act.put, ss_]
                   rfl
                  refine one_ (i := 8) (N := some 77) #[true, true, true, true, true, true, true, true, true, false] rfl rfl (jAK HT_.out kr_) (by decide) (fun K hK => ?_)
                  refine jBJ Try.func102 kr_ rfl #[.slice Ao52 t562.length co52, .slice Ao53 y566.length co53] (by rfl) rfl rfl mt_ ?_
                  with_reducible refine (jQ.calls k4 _ _ t562 _ _ y566 t569 _ ?side1 ?side2 ?side3 ?side4 A35.out).mono ?_
                  (case side1 => exact cc_ (Kd.jI HO564.out).2.2)
                  (case side2 => exact (Kd.jI HO564.out).2.1)
                  (case side3 => exact cc_ (Kd.jI HO568.out).2.2)
                  (case side4 => exact (Kd.jI HO568.out).2.1)
                  rintro e w54 ⟨v570, rfl, ho0, hb⟩
                  have HS0_ := (hb.cell (World.block_lt_of_cell? _ _ (hHeld))).trans (hHeld)
                  refine ⟨_, rfl, ?_⟩
                  have n0_ := jA.mk (Kd.jK (rR_ HO_7) (Kd.jL ho0) hb)
                  have n1_ := jA.mk (Kd.jK (rR_ HO_8) (Kd.jL ho0) hb)
                  have n2_ := jA.mk (Kd.jK (rR_ HO_10) (Kd.jL ho0) hb)
                  have n3_ := jA.mk (Kd.jK (rR_ HO561) (Kd.jL ho0) hb)
                  have n4_ := jA.mk (Kd.jK (rR_ HO564) (Kd.jL ho0) hb)
                  have n5_ := jA.mk (Kd.jK (rR_ HO568) (Kd.jL ho0) hb)
                  have n6_ := jA.mk (Kd.jS (Kd.jN (Kd.jN (Kd.jN (Kd.jN (Kd.jN (Kd.jN ho0 (Kd.R_lt (rR_ HO_7))) (Kd.R_lt (rR_ HO_8))) (Kd.R_lt (rR_ HO_10))) (Kd.R_lt (rR_ HO561))) (Kd.R_lt (rR_ HO564))) (Kd.R_lt (rR_ HO568))) (jB (bb_ HB)))
                  have n7_ := jA.mk (jC (bb_ HB) hb)
                  clear HO_7
                  clear HO_8
                  clear HO_10
                  clear HO561
                  clear HO564
                  clear HO568
                  clear HB
                  have HO_7 := n0_
                  have HO_8 := n1_
                  have HO_10 := n2_
                  have HO561 := n3_
                  have HO564 := n4_
                  have HO568 := n5_
                  have HO571 := n6_
                  have HB := n7_
                  clear n0_ n1_ n2_ n3_ n4_ n5_ n6_ n7_
                  (try clear hb)
                  (try clear hb2)
                  (try clear hk)
                  (try clear hi)
                  (try clear ho0)
                  refine hK.out _ _ (HS0_) (fun hHeld => ?_)
                  clear hK K
                  refine qO (a' := ?_) ?_ ?_
                  rotate_left
                  ·
                   show Act.put _ (some 77) _ = _
                   simp only [Act.put, ss_, jk, jo]
                   rfl
                  refine vU (i := 9) (N := some 10) (v := ?_) (a' := ?_) #[true, true, true, true, true, true, true, true, true, true] rfl rfl (vQ HT_.out kr_) (fun _ _ _ h => h) (Or.inl ⟨by rfl, ?_⟩) ?_ ?_
                  rotate_left
                  ·
                   intro w'
                   go_simp
                   with_reducible rfl
                  rotate_left
                  ·
                   simp only [Act.put, ss_, jk, jo]
                   rfl
                  refine jBW (jBK HT_.out kr_) ?_
                  obtain ⟨Ao55, co55, eo55⟩ := Kd.jc HO571.out
                  subst eo55
                  try go_wp2_with (first | ((with_reducible refine jJ (f := 103) rfl ?_); refine jr (some 80) rfl rfl Try.func103 kr_ rfl #[.slice Ao55 t569.length co55, .slice A1 l1.length c1] rfl mt_ ?_; (with_reducible refine (jR.calls k4 _ _ t569 _ _ l1 t572 _ ?side1 ?side2 ?side3 ?side4 A36.out).mono ?_); (case side1 => exact cc_ (Kd.jI HO571.out).2.2); (case side2 => exact (Kd.jI HO571.out).2.1); (case side3 => exact cc_ (Kd.je HR1.out HB.out)); (case side4 => exact HC1.out); rintro e w56 ⟨rfl, hb⟩; refine ⟨_, rfl, ?_⟩; have n0_ := jA.mk (Kd.jy (rR_ HO_7) hb); have n1_ := jA.mk (Kd.jy (rR_ HO_8) hb); have n2_ := jA.mk (Kd.jy (rR_ HO_10) hb); have n3_ := jA.mk (Kd.jy (rR_ HO561) hb); have n4_ := jA.mk (Kd.jy (rR_ HO564) hb); have n5_ := jA.mk (Kd.jy (rR_ HO568) hb); have n6_ := jA.mk (Kd.jy (rR_ HO571) hb); have n7_ := jA.mk (jC (bb_ HB) hb); clear HO_7 HO_8 HO_10 HO561 HO564 HO568 HO571 HB; have HO_7 := n0_; have HO_8 := n1_; have HO_10 := n2_; have HO561 := n3_; have HO564 := n4_; have HO568 := n5_; have HO571 := n6_; have HB := n7_; clear n0_ n1_ n2_ n3_ n4_ n5_ n6_ n7_) | ((with_reducible refine jJ (f := 104) rfl ?_); refine jr (some 86) rfl rfl Try.func104 kr_ rfl #[.slice Ao55 t569.length co55, .slice A1 l1.length c1] rfl mt_ ?_; (with_reducible refine (jX.calls k4 _ _ t569 _ _ l1 t573 _ ?side1 ?side2 ?side3 ?side4 A38.out).mono ?_); (case side1 => exact cc_ (Kd.jI HO571.out).2.2); (case side2 => exact (Kd.jI HO571.out).2.1); (case side3 => exact cc_ (Kd.je HR1.out HB.out)); (case side4 => exact HC1.out); rintro e w57 ⟨rfl, hb⟩; refine ⟨_, rfl, ?_⟩; have n0_ := jA.mk (Kd.jy (rR_ HO_7) hb); have n1_ := jA.mk (Kd.jy (rR_ HO_8) hb); have n2_ := jA.mk (Kd.jy (rR_ HO_10) hb); have n3_ := jA.mk (Kd.jy (rR_ HO561) hb); have n4_ := jA.mk (Kd.jy (rR_ HO564) hb); have n5_ := jA.mk (Kd.jy (rR_ HO568) hb); have n6_ := jA.mk (Kd.jy (rR_ HO571) hb); have n7_ := jA.mk (jC (bb_ HB) hb); clear HO_7 HO_8 HO_10 HO561 HO564 HO568 HO571 HB; have HO_7 := n0_; have HO_8 := n1_; have HO_10 := n2_; have HO561 := n3_; have HO564 := n4_; have HO568 := n5_; have HO571 := n6_; have HB := n7_; clear n0_ n1_ n2_ n3_ n4_ n5_ n6_ n7_; have p40 : 0 ≤ (x11_4 : Int) := of_decide_eq_true am_; have q40 : (x11_4 : Int) < ((x8_4.length : Int) : Int) := of_decide_eq_true am_; obtain ⟨go40, co40, eo40, gb40, gl40, cl40, HG40⟩ := Kd.jAB HO_8.out (by omega); (first | cases eo40 | (injection eo40 with ea_ en_ ec_; (first | subst ea_ | (injection ea_ with ea_; subst ea_)); subst ec_; clear en_)); have GB40 := jA.mk gb40; have GG40 := jA.mk HG40; clear gb40 gl40 HG40; obtain ⟨hx40_0, hf40_0⟩ := Kd.zP 0 HO_8.out (x11_4 : Int) p40 q40; replace p40 := eq_true p40; replace q40 := eq_true q40; have n_ := jA.mk (Kd.jP (ok' := (fun k_ => some k_ ≠ (.slice (some ad565) t544.length co28 : Value).ownBlock ∧ some k_ ≠ (.slice Ao43 x10_4.length co43 : Value).ownBlock ∧ some k_ ≠ (v560 : Value).ownBlock ∧ some k_ ≠ (.slice Ao52 t562.length co52 : Value).ownBlock ∧ some k_ ≠ (.slice Ao53 y566.length co53 : Value).ownBlock ∧ some k_ ≠ (.slice Ao55 t569.length co55 : Value).ownBlock)) HO_8.out (fun k_ hk => ⟨hk.1.2.2.2.2, ⟨hk.1.2.2.2.1, ⟨hk.1.1, ⟨hk.1.2.1, ⟨hk.1.2.2.1, hk.2⟩⟩⟩⟩⟩)); clear HO_8; have HO_8 := n_; clear n_; obtain ⟨hy58_, hz58_⟩ := Kd.zP 0 HO_8.out (x11_4 : Int) (of_decide_eq_true am_) (of_decide_eq_true am_); have HP58 := Kd.qo HO_8.out (x11_4 : Int) t573) | ((with_reducible refine zn (t := 22) (p := 87) rfl ?_); refine zZ (t := 22) (p := 87) (v := ?vo_w59) (w1 := (w57.setCell ⟨go40, (x11_4 : Int).toNat, none⟩ (.int .u64 t573))) ?hg ?ho ?hn ?hr ?_; (case ho => rfl); (case hg => rfl); (case hn => rfl); (case hr => exact gs_); intro w59 hw; have hg : w57.grownBy w59 (some go40) := (by rw [hw]; exact HP58.2); have hp_ : Kd.R (Kd.int .u64) 22 w59 w.heap.size (fun k_ => some k_ ≠ (.slice (some ad565) t544.length co28 : Value).ownBlock ∧ some k_ ≠ (.slice Ao43 x10_4.length co43 : Value).ownBlock ∧ some k_ ≠ (v560 : Value).ownBlock ∧ some k_ ≠ (.slice Ao52 t562.length co52 : Value).ownBlock ∧ some k_ ≠ (.slice Ao53 y566.length co53 : Value).ownBlock ∧ some k_ ≠ (.slice Ao55 t569.length co55 : Value).ownBlock) (.slice (some ⟨go40, 0, none⟩) x8_4.length co40) y574 := (by rw [hw, Ny574.out]; exact HP58.1); clear HP58; have n0_ := jA.mk (Kd.zX (v := (.slice (some ⟨go40, 0, none⟩) x8_4.length co40)) (v1 := (.slice (some ⟨go40, 0, none⟩) x8_4.length co40)) (ok := (fun k_ => some k_ ≠ (.slice Ao43 x10_4.length co43 : Value).ownBlock ∧ some k_ ≠ (v560 : Value).ownBlock ∧ some k_ ≠ (.slice Ao52 t562.length co52 : Value).ownBlock ∧ some k_ ≠ (.slice Ao53 y566.length co53 : Value).ownBlock ∧ some k_ ≠ (.slice Ao55 t569.length co55 : Value).ownBlock)) (by refine pR_ ?_; exact Kd.jP HO_7.out (fun _ hk => ⟨⟨hk.1.2.2.2.1, ⟨hk.1.1, ⟨hk.1.2.1, ⟨hk.1.2.2.1, hk.2⟩⟩⟩⟩, hk.1.2.2.2.2⟩)) hg (.inl rfl)); have n1_ := jA.mk (hp_); have n2_ := jA.mk (Kd.zX (v := (.slice (some ⟨go40, 0, none⟩) x8_4.length co40)) (v1 := (.slice (some ⟨go40, 0, none⟩) x8_4.length co40)) (ok := (fun k_ => some k_ ≠ (.slice (some ad565) t544.length co28 : Value).ownBlock ∧ some k_ ≠ (v560 : Value).ownBlock ∧ some k_ ≠ (.slice Ao52 t562.length co52 : Value).ownBlock ∧ some k_ ≠ (.slice Ao53 y566.length co53 : Value).ownBlock ∧ some k_ ≠ (.slice Ao55 t569.length co55 : Value).ownBlock)) (by refine pR_ ?_; exact Kd.jP HO_10.out (fun _ hk => ⟨⟨hk.1.2.2.2.1, ⟨hk.1.1, ⟨hk.1.2.1, ⟨hk.1.2.2.1, hk.2⟩⟩⟩⟩, hk.1.2.2.2.2⟩)) hg (.inl rfl)); have n3_ := jA.mk (Kd.zX (v := (.slice (some ⟨go40, 0, none⟩) x8_4.length co40)) (v1 := (.slice (some ⟨go40, 0, none⟩) x8_4.length co40)) (ok := (fun k_ => some k_ ≠ (.slice (some ad565) t544.length co28 : Value).ownBlock ∧ some k_ ≠ (.slice Ao43 x10_4.length co43 : Value).ownBlock ∧ some k_ ≠ (.slice Ao52 t562.length co52 : Value).ownBlock ∧ some k_ ≠ (.slice Ao53 y566.length co53 : Value).ownBlock ∧ some k_ ≠ (.slice Ao55 t569.length co55 : Value).ownBlock)) (by refine pR_ ?_; exact Kd.jP HO561.out (fun _ hk => ⟨⟨hk.1.2.2.2.1, ⟨hk.1.2.2.1, ⟨hk.1.1, ⟨hk.1.2.1, hk.2⟩⟩⟩⟩, hk.1.2.2.2.2⟩)) hg (.inl rfl)); have n4_ := jA.mk (Kd.zX (v := (.slice (some ⟨go40, 0, none⟩) x8_4.length co40)) (v1 := (.slice (some ⟨go40, 0, none⟩) x8_4.length co40)) (ok := (fun k_ => some k_ ≠ (.slice (some ad565) t544.length co28 : Value).ownBlock ∧ some k_ ≠ (.slice Ao43 x10_4.length co43 : Value).ownBlock ∧ some k_ ≠ (v560 : Value).ownBlock ∧ some k_ ≠ (.slice Ao53 y566.length co53 : Value).ownBlock ∧ some k_ ≠ (.slice Ao55 t569.length co55 : Value).ownBlock)) (by refine pR_ ?_; exact Kd.jP HO564.out (fun _ hk => ⟨⟨hk.1.2.2.2.1, ⟨hk.1.2.2.1, ⟨hk.1.1, ⟨hk.1.2.1, hk.2⟩⟩⟩⟩, hk.1.2.2.2.2⟩)) hg (.inl rfl)); have n5_ := jA.mk (Kd.zX (v := (.slice (some ⟨go40, 0, none⟩) x8_4.length co40)) (v1 := (.slice (some ⟨go40, 0, none⟩) x8_4.length co40)) (ok := (fun k_ => some k_ ≠ (.slice (some ad565) t544.length co28 : Value).ownBlock ∧ some k_ ≠ (.slice Ao43 x10_4.length co43 : Value).ownBlock ∧ some k_ ≠ (v560 : Value).ownBlock ∧ some k_ ≠ (.slice Ao52 t562.length co52 : Value).ownBlock ∧ some k_ ≠ (.slice Ao55 t569.length co55 : Value).ownBlock)) (by refine pR_ ?_; exact Kd.jP HO568.out (fun _ hk => ⟨⟨hk.1.2.2.2.1, ⟨hk.1.2.2.1, ⟨hk.1.1, ⟨hk.1.2.1, hk.2⟩⟩⟩⟩, hk.1.2.2.2.2⟩)) hg (.inl rfl)); have n6_ := jA.mk (Kd.zX (v := (.slice (some ⟨go40, 0, none⟩) x8_4.length co40)) (v1 := (.slice (some ⟨go40, 0, none⟩) x8_4.length co40)) (ok := (fun k_ => some k_ ≠ (.slice (some ad565) t544.length co28 : Value).ownBlock ∧ some k_ ≠ (.slice Ao43 x10_4.length co43 : Value).ownBlock ∧ some k_ ≠ (v560 : Value).ownBlock ∧ some k_ ≠ (.slice Ao52 t562.length co52 : Value).ownBlock ∧ some k_ ≠ (.slice Ao53 y566.length co53 : Value).ownBlock)) (by refine pR_ ?_; exact Kd.jP HO571.out (fun _ hk => ⟨⟨hk.1.1.1.1.1.2, ⟨hk.1.1.1.2, ⟨hk.1.1.2, ⟨hk.1.2, hk.2⟩⟩⟩⟩, hk.1.1.1.1.2⟩)) hg (.inl rfl)); have n7_ := jA.mk ((by rw [hw]; exact zD (HB.out) GB40.out : Below w.heap.size w w59)); clear HO_7 HO_8 HO_10 HO561 HO564 HO568 HO571 HB; have HO_7 := n0_; have HO_8 := n1_; have HO_10 := n2_; have HO561 := n3_; have HO564 := n4_; have HO568 := n5_; have HO571 := n6_; have HB := n7_; clear n0_ n1_ n2_ n3_ n4_ n5_ n6_ n7_ hg hw hp_; have p575 : 0 ≤ (x11_4 : Int) := of_decide_eq_true am_; have q575 : x11_4 < (y574.length : Int) := (by have h_ : (x11_4 : Int) < ((x8_4.length : Int) : Int) := of_decide_eq_true am_; first | (have e_ := (Kd.jI HO_8.out).1; omega) | simpa only [Ny574.out, List.length_set] using h_); have ql575 : ((x11_4 : Int) < ((x8_4.length : Int) : Int)) = True := eq_true (of_decide_eq_true am_); obtain ⟨ad575, e575, hx575_0⟩ := Kd.zF (Kd.jI HO_8.out).2.2 x11_4 p575 q575; obtain rfl : (⟨go40, 0, none⟩ : Addr) = ad575 := (by injection e575); (first | simp only [add_plain] at hx575_0 | simp only [jGV] at hx575_0 | simp only [Addr.add, Nat.zero_add] at hx575_0 | skip); replace p575 := eq_true p575; replace q575 := eq_true q575) | ((with_reducible refine jl (N := 95) rfl ?_); (try (refine jv (by rfl) ?_; dsimp only)); refine Kd.jAC (Kd.int .u64) _ 22 ?hg (N := 95) ?hd (xs := ([rd y574 x11_4] : List Int)) (inner := [.int .u64 (rd y574 x11_4)]) (ok := fun _ => True) (okp := fun _ => True) ?hr ?hp (fun _ hk => hk) trivial (Below.refl _ _) (Nat.le_refl _) (by simp) ?_; (case hd => rfl); (case hg => rfl); (case hr => exact gs_); (case hp => exact (Reps.one (show Kd.M (Kd.int .u64) _ _ _ (rd y574 x11_4) [.int .u64 (rd y574 x11_4)] from rfl) (Reps.none _ _))); intro v577 w60 ho61 hb hg_ hnew_; clear hg_ hnew_; (first | rw [← Ny576.out] at ho61 | (simp only [Int.reduceToNat] at ho61; rw [← Ny576.out] at ho61)); have n0_ := jA.mk (Kd.jK (rR_ HO_7) (Kd.jL ho61) hb); have n1_ := jA.mk (Kd.jK (rR_ HO_8) (Kd.jL ho61) hb); have n2_ := jA.mk (Kd.jK (rR_ HO_10) (Kd.jL ho61) hb); have n3_ := jA.mk (Kd.jK (rR_ HO561) (Kd.jL ho61) hb); have n4_ := jA.mk (Kd.jK (rR_ HO564) (Kd.jL ho61) hb); have n5_ := jA.mk (Kd.jK (rR_ HO568) (Kd.jL ho61) hb); have n6_ := jA.mk (Kd.jK (rR_ HO571) (Kd.jL ho61) hb); have n7_ := jA.mk (Kd.jS (Kd.jN (Kd.jN (Kd.jN (Kd.jN (Kd.jN (Kd.jN (Kd.jN ho61 (Kd.R_lt (rR_ HO_7))) (Kd.R_lt (rR_ HO_8))) (Kd.R_lt (rR_ HO_10))) (Kd.R_lt (rR_ HO561))) (Kd.R_lt (rR_ HO564))) (Kd.R_lt (rR_ HO568))) (Kd.R_lt (rR_ HO571))) (jB (bb_ HB))); have n8_ := jA.mk (jC (bb_ HB) hb); clear HO_7 HO_8 HO_10 HO561 HO564 HO568 HO571 HB; have HO_7 := n0_; have HO_8 := n1_; have HO_10 := n2_; have HO561 := n3_; have HO564 := n4_; have HO568 := n5_; have HO571 := n6_; have HO578 := n7_; have HB := n8_; clear n0_ n1_ n2_ n3_ n4_ n5_ n6_ n7_ n8_ hb ho61; obtain ⟨Ao62, co62, eo62⟩ := Kd.jc HO578.out; subst eo62) | ((with_reducible refine jJ (f := 23) rfl ?_); refine jr (some 96) rfl rfl Try.func23 kr_ rfl #[.slice A1 l1.length c1, .slice Ao62 y576.length co62] rfl mt_ ?_; (with_reducible refine (jG.calls k4 _ _ l1 _ _ y576 t579 _ ?side1 ?side2 ?side3 ?side4 A41.out).mono ?_); (case side1 => exact cc_ (Kd.je HR1.out HB.out)); (case side2 => exact HC1.out); (case side3 => exact cc_ (Kd.jI HO578.out).2.2); (case side4 => exact (Kd.jI HO578.out).2.1); rintro e w63 ⟨v580, rfl, ho0, hb⟩; refine ⟨_, rfl, ?_⟩; have n0_ := jA.mk (Kd.jK (rR_ HO_7) (Kd.jL ho0) hb); have n1_ := jA.mk (Kd.jK (rR_ HO_8) (Kd.jL ho0) hb); have n2_ := jA.mk (Kd.jK (rR_ HO_10) (Kd.jL ho0) hb); have n3_ := jA.mk (Kd.jK (rR_ HO561) (Kd.jL ho0) hb); have n4_ := jA.mk (Kd.jK (rR_ HO564) (Kd.jL ho0) hb); have n5_ := jA.mk (Kd.jK (rR_ HO568) (Kd.jL ho0) hb); have n6_ := jA.mk (Kd.jK (rR_ HO571) (Kd.jL ho0) hb); have n7_ := jA.mk (Kd.jK (rR_ HO578) (Kd.jL ho0) hb); have n8_ := jA.mk (Kd.jS (Kd.jN (Kd.jN (Kd.jN (Kd.jN (Kd.jN (Kd.jN (Kd.jN (Kd.jN ho0 (Kd.R_lt (rR_ HO_7))) (Kd.R_lt (rR_ HO_8))) (Kd.R_lt (rR_ HO_10))) (Kd.R_lt (rR_ HO561))) (Kd.R_lt (rR_ HO564))) (Kd.R_lt (rR_ HO568))) (Kd.R_lt (rR_ HO571))) (Kd.R_lt (rR_ HO578))) (jB (bb_ HB))); have n9_ := jA.mk (jC (bb_ HB) hb); clear HO_7 HO_8 HO_10 HO561 HO564 HO568 HO571 HO578 HB; have HO_7 := n0_; have HO_8 := n1_; have HO_10 := n2_; have HO561 := n3_; have HO564 := n4_; have HO568 := n5_; have HO571 := n6_; have HO578 := n7_; have HO581 := n8_; have HB := n9_; clear n0_ n1_ n2_ n3_ n4_ n5_ n6_ n7_ n8_ n9_; obtain ⟨Ao64, co64, eo64⟩ := Kd.jc HO581.out; subst eo64) | ((with_reducible refine jJ (f := 105) rfl ?_); refine jr (some 97) rfl rfl Try.func105 kr_ rfl #[.slice Ao55 t569.length co55, .slice Ao64 t579.length co64] rfl mt_ ?_; (with_reducible refine (jZ.calls k4 _ _ t569 _ _ t579 t582 t583 _ ?side1 ?side2 ?side3 ?side4 A42.out).mono ?_); (case side1 => exact cc_ (Kd.jI HO571.out).2.2); (case side2 => exact (Kd.jI HO571.out).2.1); (case side3 => exact cc_ (Kd.jI HO581.out).2.2); (case side4 => exact (Kd.jI HO581.out).2.1); rintro e w65 ⟨v584, rfl, ho0, hb⟩; refine ⟨_, rfl, ?_⟩; have n0_ := jA.mk (Kd.jK (rR_ HO_7) (Kd.jL ho0) hb); have n1_ := jA.mk (Kd.jK (rR_ HO_8) (Kd.jL ho0) hb); have n2_ := jA.mk (Kd.jK (rR_ HO_10) (Kd.jL ho0) hb); have n3_ := jA.mk (Kd.jK (rR_ HO561) (Kd.jL ho0) hb); have n4_ := jA.mk (Kd.jK (rR_ HO564) (Kd.jL ho0) hb); have n5_ := jA.mk (Kd.jK (rR_ HO568) (Kd.jL ho0) hb); have n6_ := jA.mk (Kd.jK (rR_ HO571) (Kd.jL ho0) hb); have n7_ := jA.mk (Kd.jK (rR_ HO578) (Kd.jL ho0) hb); have n8_ := jA.mk (Kd.jK (rR_ HO581) (Kd.jL ho0) hb); have n9_ := jA.mk (Kd.jS (Kd.jN (Kd.jN (Kd.jN (Kd.jN (Kd.jN (Kd.jN (Kd.jN (Kd.jN (Kd.jN ho0 (Kd.R_lt (rR_ HO_7))) (Kd.R_lt (rR_ HO_8))) (Kd.R_lt (rR_ HO_10))) (Kd.R_lt (rR_ HO561))) (Kd.R_lt (rR_ HO564))) (Kd.R_lt (rR_ HO568))) (Kd.R_lt (rR_ HO571))) (Kd.R_lt (rR_ HO578))) (Kd.R_lt (rR_ HO581))) (jB (bb_ HB))); have n10_ := jA.mk (jC (bb_ HB) hb); clear HO_7 HO_8 HO_10 HO561 HO564 HO568 HO571 HO578 HO581 HB; have HO_7 := n0_; have HO_8 := n1_; have HO_10 := n2_; have HO561 := n3_; have HO564 := n4_; have HO568 := n5_; have HO571 := n6_; have HO578 := n7_; have HO581 := n8_; have HO585 := n9_; have HB := n10_; clear n0_ n1_ n2_ n3_ n4_ n5_ n6_ n7_ n8_ n9_ n10_))
                  go_roundg k4
                  case measure => have := HJ2.out; have := HJ8.out; have := HK3.out; have := HK4.out; omega
                  case rel => exact ⟨(y574), (t582), (wrap64 (x11_4 - 1)), sd_, H', ⟨by have := HJ2.out; have := HJ8.out; have := HK3.out; have := HK4.out; omega⟩, ⟨by (with_reducible repeat (first | apply Kd.zQ | apply Kd.zU | apply Kd.ze)); exact Kd.jP HO_7.out (fun _ hk => ⟨hk.1.1.1.2, hk.2⟩)⟩, ⟨by (with_reducible repeat (first | apply Kd.zQ | apply Kd.zU | apply Kd.ze)); exact Kd.jP HO_8.out (fun _ hk => ⟨hk.1.1.1.1, hk.2⟩)⟩, ⟨by (with_reducible repeat (first | apply Kd.zQ | apply Kd.zU | apply Kd.ze)); exact Kd.jP HO585.out (fun _ hk => ⟨hk.1.1.1.1.1.1.1.1.2, hk.1.1.1.1.1.1.1.2⟩)⟩, ⟨(bb_ HB)⟩⟩
                 ·
                  rw [if_neg c39] at H
                  exact absurd H (by simp)
                ·
                 rw [if_neg c37] at H
                 have c37b0 := decide_eq_false c37
                 clear c37
                 have H' := jA.mk H
                 clear H
                 obtain ⟨Ao66, co66, eo66⟩ := Kd.jc HO_10.out
                 subst eo66
                 try go_wp2
                 have n0_ := jA.mk (Kd.ze HO_7.out)
                 have n1_ := jA.mk (Kd.ze HO_8.out)
                 have n2_ := jA.mk (Kd.ze HO_10.out)
                 have n3_ := jA.mk (qI HB.out)
                 clear HO_7
                 clear HO_8
                 clear HO_10
                 clear HB
                 have HO_7 := n0_
                 have HO_8 := n1_
                 have HO_10 := n2_
                 have HB := n3_
                 clear n0_ n1_ n2_ n3_
                 have p565 : 0 ≤ (x11_4 : Int) := of_decide_eq_true am_
                 have q565 : x11_4 < (t544.length : Int) := of_decide_eq_true am_
                 obtain ⟨ad565, e565, hx565_0⟩ := Kd.zF (Kd.jI HO_7.out).2.2 x11_4 p565 q565
                 cases e565
                 replace p565 := eq_true p565
                 replace q565 := eq_true q565
                 refine jAs (n := 10) (S := fun w' => w'.cell? (ad565.add (x11_4).toNat) = some (.int .u64 (rd t544 x11_4))) (ds := []) #[false, false, false, false, false, false, false, false, false, false] kr_ rfl rfl (hx565_0) (fun hHeld => ?_); refine jAa jD.jIx jD.jHn (fun HT_ HW_ => ?_)
                 generalize wr.drew = w67 at HO_7 HO_8 HO_10 HB hx565_0 hHeld ⊢
                 refine vU (i := 0) (N := some 69) (v := ?_) (a' := ?_) #[true, false, false, false, false, false, false, false, false, false] rfl rfl (vQ HT_.out kr_) (fun _ _ _ h => h) (Or.inl ⟨by rfl, ?_⟩) ?_ ?_
                 rotate_left
                 ·
                  intro w'
                  go_simp
                  with_reducible rfl
                 rotate_left
                 ·
                  simp only [Act.put, ss_, jk, jo]
                  rfl
                 refine vU (i := 3) (N := some 72) (v := ?_) (a' := ?_) #[true, false, false, true, false, false, false, false, false, false] rfl rfl (vQ HT_.out kr_) (fun _ _ _ h => h) (Or.inl ⟨by rfl, ?_⟩) ?_ ?_
                 rotate_left
                 ·
                  intro w'
                  go_simp
                  with_reducible rfl
                 rotate_left
                 ·
                  simp only [Act.put, ss_, jk, jo]
                  rfl
                 refine vU (i := 4) (N := some 73) (v := ?_) (a' := ?_) #[true, false, false, true, true, false, false, false, false, false] rfl rfl (vQ HT_.out kr_) (fun _ _ _ h => h) (Or.inl ⟨by rfl, ?_⟩) ?_ ?_
                 rotate_left
                 ·
                  intro w'
                  go_simp
                  with_reducible rfl
                 rotate_left
                 ·
                  simp only [Act.put, ss_, jk, jo]
                  rfl
                 refine vU (i := 5) (N := some 74) (v := ?_) (a' := ?_) #[true, false, false, true, true, true, false, false, false, false] rfl rfl (vQ HT_.out kr_) (fun _ _ _ h => h) (Or.inl ⟨by rfl, ?_⟩) ?_ ?_
                 rotate_left
                 ·
                  intro w'
                  go_simp
                  with_reducible rfl
                 rotate_left
                 ·
                  simp only [Act.put, ss_, jk, jo]
                  rfl
                 refine qw (i := 6) (N := some 75) (v := ?_) (a' := ?_) #[true, false, false, true, true, true, true, false, false, false] rfl rfl (qZ HT_.out HW_.out kr_) (fun _ _ _ h => h) (Or.inl ⟨by rfl, ?_⟩) hHeld ?_ ?_
                 rotate_left
                 ·
                  intro w' s0
                  go_simp
                  with_reducible rfl
                 rotate_left
                 ·
                  simp only [Act.put, ss_, jk, jo]
                  rfl
                 refine jJV (σ := Value × Value × Value) 2 #[true, true, true, true, true, true, true, true, false, false] (fun s_ => [(70, s_.1), (71, s_.2.1), (76, s_.2.2)]) (fun s_ w' => (w'.cell? (ad565.add (x11_4).toNat) = some (.int .u64 (rd t544 x11_4))) ∧ (Kd.R (Kd.int .u64) 22 w' w.heap.size (fun k_ => some k_ ≠ (s_.2.1 : Value).ownBlock ∧ some k_ ≠ (s_.2.2 : Value).ownBlock ∧ some k_ ≠ (.slice Ao66 x10_4.length co66 : Value).ownBlock ∧ some k_ ≠ (.slice (some ad565) t544.length co28 : Value).ownBlock ∧ some k_ ≠ (u8 : Value).ownBlock) s_.1 y559) ∧ (Kd.R (Kd.int .u64) 22 w' w.heap.size (fun k_ => some k_ ≠ (s_.1 : Value).ownBlock ∧ some k_ ≠ (s_.2.2 : Value).ownBlock ∧ some k_ ≠ (.slice Ao66 x10_4.length co66 : Value).ownBlock ∧ some k_ ≠ (.slice (some ad565) t544.length co28 : Value).ownBlock ∧ some k_ ≠ (u8 : Value).ownBlock) s_.2.1 t562) ∧ (Kd.R (Kd.int .u64) 22 w' w.heap.size (fun k_ => some k_ ≠ (s_.1 : Value).ownBlock ∧ some k_ ≠ (s_.2.1 : Value).ownBlock ∧ some k_ ≠ (.slice Ao66 x10_4.length co66 : Value).ownBlock ∧ some k_ ≠ (.slice (some ad565) t544.length co28 : Value).ownBlock ∧ some k_ ≠ (u8 : Value).ownBlock) s_.2.2 y566) ∧ (Kd.R (Kd.int .u64) 22 w' w.heap.size (fun k_ => some k_ ≠ (s_.1 : Value).ownBlock ∧ some k_ ≠ (s_.2.1 : Value).ownBlock ∧ some k_ ≠ (s_.2.2 : Value).ownBlock ∧ some k_ ≠ (.slice (some ad565) t544.length co28 : Value).ownBlock ∧ some k_ ≠ (u8 : Value).ownBlock) (.slice Ao66 x10_4.length co66) x10_4) ∧ (Kd.R (Kd.int .u64) 22 w' w.heap.size (fun k_ => some k_ ≠ (s_.1 : Value).ownBlock ∧ some k_ ≠ (s_.2.1 : Value).ownBlock ∧ some k_ ≠ (s_.2.2 : Value).ownBlock ∧ some k_ ≠ (.slice Ao66 x10_4.length co66 : Value).ownBlock ∧ some k_ ≠ (u8 : Value).ownBlock) (.slice (some ad565) t544.length co28) t544) ∧ (Kd.R (Kd.int .u64) 22 w' w.heap.size (fun k_ => some k_ ≠ (s_.1 : Value).ownBlock ∧ some k_ ≠ (s_.2.1 : Value).ownBlock ∧ some k_ ≠ (s_.2.2 : Value).ownBlock ∧ some k_ ≠ (.slice Ao66 x10_4.length co66 : Value).ownBlock ∧ some k_ ≠ (.slice (some ad565) t544.length co28 : Value).ownBlock) u8 x8_4) ∧ (Below w.heap.size w w')) ?_ ?_
                 rotate_left
                 ·
                  intro hCont
                  refine two_ (i := 1) (j := 7) (Ni := some 70) (Nj := some 76) #[true, true, false, true, true, true, true, false, false, false] #[true, false, false, true, true, true, true, true, false, false] rfl rfl rfl rfl (jEd HT_.out kr_) (by decide) (by decide) (fun K hK => ?_) (fun K hK => ?_)
                  ·
                   skip
                   refine Kd.qd (Kd.int .u64) _ 22 ?hg (N := 70) ?hd (xs := ([4294967296] : List Int)) (inner := [.int .u64 4294967296]) (ok := fun _ => True) (okp := fun _ => True) ?hr ?hp (fun _ hk => hk) trivial (Below.refl _ _) (Nat.le_refl _) (by simp) ?_; (case hd => rfl); (case hg => rfl); (case hr => exact gs_); (case hp => exact (Reps.one (show Kd.M (Kd.int .u64) _ _ _ 4294967296 [.int .u64 4294967296] from rfl) (Reps.none _ _)))
                   intro v560 w68 ho69 hb hg_ hnew_
                   have HS0_ := (hb.cell (World.block_lt_of_cell? _ _ (hHeld))).trans (hHeld)
                   clear hg_ hnew_
                   (first | rw [← Ny559.out] at ho69 | (simp only [Int.reduceToNat] at ho69; rw [← Ny559.out] at ho69))
                   have n0_ := jA.mk (Kd.jK (rR_ HO_7) (Kd.jL ho69) hb)
                   have n1_ := jA.mk (Kd.jK (rR_ HO_8) (Kd.jL ho69) hb)
                   have n2_ := jA.mk (Kd.jK (rR_ HO_10) (Kd.jL ho69) hb)
                   have n3_ := jA.mk (Kd.jS (Kd.jN (Kd.jN (Kd.jN ho69 (Kd.R_lt (rR_ HO_7))) (Kd.R_lt (rR_ HO_8))) (Kd.R_lt (rR_ HO_10))) (jB (bb_ HB)))
                   have n4_ := jA.mk (jC (bb_ HB) hb)
                   clear HO_7
                   clear HO_8
                   clear HO_10
                   clear HB
                   have HO_7 := n0_
                   have HO_8 := n1_
                   have HO_10 := n2_
                   have HO561 := n3_
                   have HB := n4_
                   clear n0_ n1_ n2_ n3_ n4_
                   clear hb ho69
                   obtain ⟨Ao70, co70, eo70⟩ := Kd.jc HO561.out
                   (first | subst eo70 | (injection eo70 with f1_ f2_ f3_; have f4_ := f1_.symm; have f5_ := f3_.symm; clear f1_ f2_ f3_; subst f4_; subst f5_))
                   refine hK.out _ _ (HS0_) (fun hHeld => ?_)
                   clear hK K
                   refine qO (a' := ?_) ?_ ?_
                   rotate_left
                   ·
                    show Act.put _ (some 70) _ = _
                    simp only [Act.put, ss_, jk, jo]
                    rfl
                   refine two_ (i := 2) (j := 7) (Ni := some 71) (Nj := some 76) #[true, true, true, true, true, true, true, false, false, false] #[true, true, false, true, true, true, true, true, false, false] rfl rfl rfl rfl (jEd HT_.out kr_) (by decide) (by decide) (fun K hK => ?_) (fun K hK => ?_)
                   ·
                    skip
                    refine jBJ Try.func23 kr_ rfl #[.slice Ao66 x10_4.length co66, .slice Ao70 y559.length co70] (by rfl) rfl rfl mt_ ?_
                    with_reducible refine (jG.calls k4 _ _ x10_4 _ _ y559 t562 _ ?side1 ?side2 ?side3 ?side4 A32.out).mono ?_
                    (case side1 => exact cc_ (Kd.jI HO_10.out).2.2)
                    (case side2 => exact (Kd.jI HO_10.out).2.1)
                    (case side3 => exact cc_ (Kd.jI HO561.out).2.2)
                    (case side4 => exact (Kd.jI HO561.out).2.1)
                    rintro e w71 ⟨v563, rfl, ho0, hb⟩
                    have HS0_ := (hb.cell (World.block_lt_of_cell? _ _ (hHeld))).trans (hHeld)
                    refine ⟨_, rfl, ?_⟩
                    have n0_ := jA.mk (Kd.jK (rR_ HO_7) (Kd.jL ho0) hb)
                    have n1_ := jA.mk (Kd.jK (rR_ HO_8) (Kd.jL ho0) hb)
                    have n2_ := jA.mk (Kd.jK (rR_ HO_10) (Kd.jL ho0) hb)
                    have n3_ := jA.mk (Kd.jK (rR_ HO561) (Kd.jL ho0) hb)
                    have n4_ := jA.mk (Kd.jS (Kd.jN (Kd.jN (Kd.jN (Kd.jN ho0 (Kd.R_lt (rR_ HO_7))) (Kd.R_lt (rR_ HO_8))) (Kd.R_lt (rR_ HO_10))) (Kd.R_lt (rR_ HO561))) (jB (bb_ HB)))
                    have n5_ := jA.mk (jC (bb_ HB) hb)
                    clear HO_7
                    clear HO_8
                    clear HO_10
                    clear HO561
                    clear HB
                    have HO_7 := n0_
                    have HO_8 := n1_
                    have HO_10 := n2_
                    have HO561 := n3_
                    have HO564 := n4_
                    have HB := n5_
                    clear n0_ n1_ n2_ n3_ n4_ n5_
                    (try clear hb)
                    (try clear hb2)
                    (try clear hk)
                    (try clear hi)
                    (try clear ho0)
                    refine hK.out _ _ (HS0_) (fun hHeld => ?_)
                    clear hK K
                    refine qO (a' := ?_) ?_ ?_
                    rotate_left
                    ·
                     show Act.put _ (some 71) _ = _
                     simp only [Act.put, ss_, jk, jo]
                     rfl
                    refine one_ (i := 7) (N := some 76) #[true, true, true, true, true, true, true, true, false, false] rfl rfl (jAK HT_.out kr_) (by decide) (fun K hK => ?_)
                    refine Kd.qd (Kd.int .u64) _ 22 ?hg (N := 76) ?hd (xs := ([rd t544 x11_4] : List Int)) (inner := [.int .u64 (rd t544 x11_4)]) (ok := fun _ => True) (okp := fun _ => True) ?hr ?hp (fun _ hk => hk) trivial (Below.refl _ _) (Nat.le_refl _) (by simp) ?_; (case hd => rfl); (case hg => rfl); (case hr => exact gs_); (case hp => exact (Reps.one (show Kd.M (Kd.int .u64) _ _ _ (rd t544 x11_4) [.int .u64 (rd t544 x11_4)] from rfl) (Reps.none _ _)))
                    intro v567 w72 ho73 hb hg_ hnew_
                    have HS0_ := (hb.cell (World.block_lt_of_cell? _ _ (hHeld))).trans (hHeld)
                    clear hg_ hnew_
                    (first | rw [← Ny566.out] at ho73 | (simp only [Int.reduceToNat] at ho73; rw [← Ny566.out] at ho73))
                    have n0_ := jA.mk (Kd.jK (rR_ HO_7) (Kd.jL ho73) hb)
                    have n1_ := jA.mk (Kd.jK (rR_ HO_8) (Kd.jL ho73) hb)
                    have n2_ := jA.mk (Kd.jK (rR_ HO_10) (Kd.jL ho73) hb)
                    have n3_ := jA.mk (Kd.jK (rR_ HO561) (Kd.jL ho73) hb)
                    have n4_ := jA.mk (Kd.jK (rR_ HO564) (Kd.jL ho73) hb)
                    have n5_ := jA.mk (Kd.jS (Kd.jN (Kd.jN (Kd.jN (Kd.jN (Kd.jN ho73 (Kd.R_lt (rR_ HO_7))) (Kd.R_lt (rR_ HO_8))) (Kd.R_lt (rR_ HO_10))) (Kd.R_lt (rR_ HO561))) (Kd.R_lt (rR_ HO564))) (jB (bb_ HB)))
                    have n6_ := jA.mk (jC (bb_ HB) hb)
                    clear HO_7
                    clear HO_8
                    clear HO_10
                    clear HO561
                    clear HO564
                    clear HB
                    have HO_7 := n0_
                    have HO_8 := n1_
                    have HO_10 := n2_
                    have HO561 := n3_
                    have HO564 := n4_
                    have HO568 := n5_
                    have HB := n6_
                    clear n0_ n1_ n2_ n3_ n4_ n5_ n6_
                    clear hb ho73
                    refine hK.out _ _ (HS0_) (fun hHeld => ?_)
                    clear hK K
                    refine qO (a' := ?_) ?_ ?_
                    rotate_left
                    ·
                     show Act.put _ (some 76) _ = _
                     simp only [Act.put, ss_, jk, jo]
                     rfl
                    exact qO (by simp only [jBI, Act.put, ss_]) (hCont (.slice Ao70 y559.length co70, v563, v567) _ ⟨hHeld, (by refine pR_ ?_; exact Kd.jP HO561.out (fun _ hk => ⟨hk.1.2, ⟨hk.2, ⟨hk.1.1.2, ⟨hk.1.1.1.1.2, hk.1.1.1.2⟩⟩⟩⟩)), (by refine pR_ ?_; exact Kd.jP HO564.out (fun _ hk => ⟨hk.1.2, ⟨hk.2, ⟨hk.1.1.2, ⟨hk.1.1.1.1.2, hk.1.1.1.2⟩⟩⟩⟩)), (by refine pR_ ?_; exact Kd.jP HO568.out (fun _ hk => ⟨hk.1.2, ⟨hk.2, ⟨hk.1.1.2, ⟨hk.1.1.1.1.2, hk.1.1.1.2⟩⟩⟩⟩)), (by refine pR_ ?_; exact Kd.jP HO_10.out (fun _ hk => ⟨hk.1.1.2, ⟨hk.1.2, ⟨hk.2, ⟨hk.1.1.1.1, hk.1.1.1.2⟩⟩⟩⟩)), (by refine pR_ ?_; exact Kd.jP HO_7.out (fun _ hk => ⟨hk.1.1.2, ⟨hk.1.2, ⟨hk.2, ⟨hk.1.1.1.2, hk.1.1.1.1⟩⟩⟩⟩)), (by refine pR_ ?_; exact Kd.jP HO_8.out (fun _ hk => ⟨hk.1.1.2, ⟨hk.1.2, ⟨hk.2, ⟨hk.1.1.1.2, hk.1.1.1.1⟩⟩⟩⟩)), (bb_ HB)⟩)
                   ·
                    skip
                    refine Kd.qd (Kd.int .u64) _ 22 ?hg (N := 76) ?hd (xs := ([rd t544 x11_4] : List Int)) (inner := [.int .u64 (rd t544 x11_4)]) (ok := fun _ => True) (okp := fun _ => True) ?hr ?hp (fun _ hk => hk) trivial (Below.refl _ _) (Nat.le_refl _) (by simp) ?_; (case hd => rfl); (case hg => rfl); (case hr => exact gs_); (case hp => exact (Reps.one (show Kd.M (Kd.int .u64) _ _ _ (rd t544 x11_4) [.int .u64 (rd t544 x11_4)] from rfl) (Reps.none _ _)))
                    intro v567 w70 ho71 hb hg_ hnew_
                    have HS0_ := (hb.cell (World.block_lt_of_cell? _ _ (hHeld))).trans (hHeld)
                    clear hg_ hnew_
                    (first | rw [← Ny566.out] at ho71 | (simp only [Int.reduceToNat] at ho71; rw [← Ny566.out] at ho71))
                    have n0_ := jA.mk (Kd.jK (rR_ HO_7) (Kd.jL ho71) hb)
                    have n1_ := jA.mk (Kd.jK (rR_ HO_8) (Kd.jL ho71) hb)
                    have n2_ := jA.mk (Kd.jK (rR_ HO_10) (Kd.jL ho71) hb)
                    have n3_ := jA.mk (Kd.jK (rR_ HO561) (Kd.jL ho71) hb)
                    have n4_ := jA.mk (Kd.jS (Kd.jN (Kd.jN (Kd.jN (Kd.jN ho71 (Kd.R_lt (rR_ HO_7))) (Kd.R_lt (rR_ HO_8))) (Kd.R_lt (rR_ HO_10))) (Kd.R_lt (rR_ HO561))) (jB (bb_ HB)))
                    have n5_ := jA.mk (jC (bb_ HB) hb)
                    clear HO_7
                    clear HO_8
                    clear HO_10
                    clear HO561
                    clear HB
                    have HO_7 := n0_
                    have HO_8 := n1_
                    have HO_10 := n2_
                    have HO561 := n3_
                    have HO568 := n4_
                    have HB := n5_
                    clear n0_ n1_ n2_ n3_ n4_ n5_
                    clear hb ho71
                    obtain ⟨Ao72, co72, eo72⟩ := Kd.jc HO561.out
                    (first | subst eo72 | (injection eo72 with f1_ f2_ f3_; have f4_ := f1_.symm; have f5_ := f3_.symm; clear f1_ f2_ f3_; subst f4_; subst f5_))
                    refine hK.out _ _ (HS0_) (fun hHeld => ?_)
                    clear hK K
                    refine qO (a' := ?_) ?_ ?_
                    rotate_left
                    ·
                     show Act.put _ (some 76) _ = _
                     simp only [Act.put, ss_, jk, jo]
                     rfl
                    refine one_ (i := 2) (N := some 71) #[true, true, true, true, true, true, true, true, false, false] rfl rfl (jAK HT_.out kr_) (by decide) (fun K hK => ?_)
                    refine jBJ Try.func23 kr_ rfl #[.slice Ao66 x10_4.length co66, .slice Ao72 y559.length co72] (by rfl) rfl rfl mt_ ?_
                    with_reducible refine (jG.calls k4 _ _ x10_4 _ _ y559 t562 _ ?side1 ?side2 ?side3 ?side4 A32.out).mono ?_
                    (case side1 => exact cc_ (Kd.jI HO_10.out).2.2)
                    (case side2 => exact (Kd.jI HO_10.out).2.1)
                    (case side3 => exact cc_ (Kd.jI HO561.out).2.2)
                    (case side4 => exact (Kd.jI HO561.out).2.1)
                    rintro e w73 ⟨v563, rfl, ho0, hb⟩
                    have HS0_ := (hb.cell (World.block_lt_of_cell? _ _ (hHeld))).trans (hHeld)
                    refine ⟨_, rfl, ?_⟩
                    have n0_ := jA.mk (Kd.jK (rR_ HO_7) (Kd.jL ho0) hb)
                    have n1_ := jA.mk (Kd.jK (rR_ HO_8) (Kd.jL ho0) hb)
                    have n2_ := jA.mk (Kd.jK (rR_ HO_10) (Kd.jL ho0) hb)
                    have n3_ := jA.mk (Kd.jK (rR_ HO561) (Kd.jL ho0) hb)
                    have n4_ := jA.mk (Kd.jK (rR_ HO568) (Kd.jL ho0) hb)
                    have n5_ := jA.mk (Kd.jS (Kd.jN (Kd.jN (Kd.jN (Kd.jN (Kd.jN ho0 (Kd.R_lt (rR_ HO_7))) (Kd.R_lt (rR_ HO_8))) (Kd.R_lt (rR_ HO_10))) (Kd.R_lt (rR_ HO561))) (Kd.R_lt (rR_ HO568))) (jB (bb_ HB)))
                    have n6_ := jA.mk (jC (bb_ HB) hb)
                    clear HO_7
                    clear HO_8
                    clear HO_10
                    clear HO561
                    clear HO568
                    clear HB
                    have HO_7 := n0_
                    have HO_8 := n1_
                    have HO_10 := n2_
                    have HO561 := n3_
                    have HO568 := n4_
                    have HO564 := n5_
                    have HB := n6_
                    clear n0_ n1_ n2_ n3_ n4_ n5_ n6_
                    (try clear hb)
                    (try clear hb2)
                    (try clear hk)
                    (try clear hi)
                    (try clear ho0)
                    refine hK.out _ _ (HS0_) (fun hHeld => ?_)
                    clear hK K
                    refine qO (a' := ?_) ?_ ?_
                    rotate_left
                    ·
                     show Act.put _ (some 71) _ = _
                     simp only [Act.put, ss_, jk, jo]
                     rfl
                    exact qO (by simp only [jBI, Act.put, ss_]) (hCont (.slice Ao72 y559.length co72, v563, v567) _ ⟨hHeld, (by refine pR_ ?_; exact Kd.jP HO561.out (fun _ hk => ⟨hk.2, ⟨hk.1.2, ⟨hk.1.1.2, ⟨hk.1.1.1.1.2, hk.1.1.1.2⟩⟩⟩⟩)), (by refine pR_ ?_; exact Kd.jP HO564.out (fun _ hk => ⟨hk.1.2, ⟨hk.2, ⟨hk.1.1.2, ⟨hk.1.1.1.1.2, hk.1.1.1.2⟩⟩⟩⟩)), (by refine pR_ ?_; exact Kd.jP HO568.out (fun _ hk => ⟨hk.1.2, ⟨hk.2, ⟨hk.1.1.2, ⟨hk.1.1.1.1.2, hk.1.1.1.2⟩⟩⟩⟩)), (by refine pR_ ?_; exact Kd.jP HO_10.out (fun _ hk => ⟨hk.1.1.2, ⟨hk.2, ⟨hk.1.2, ⟨hk.1.1.1.1, hk.1.1.1.2⟩⟩⟩⟩)), (by refine pR_ ?_; exact Kd.jP HO_7.out (fun _ hk => ⟨hk.1.1.2, ⟨hk.2, ⟨hk.1.2, ⟨hk.1.1.1.2, hk.1.1.1.1⟩⟩⟩⟩)), (by refine pR_ ?_; exact Kd.jP HO_8.out (fun _ hk => ⟨hk.1.1.2, ⟨hk.2, ⟨hk.1.2, ⟨hk.1.1.1.2, hk.1.1.1.1⟩⟩⟩⟩)), (bb_ HB)⟩)
                  ·
                   skip
                   refine Kd.qd (Kd.int .u64) _ 22 ?hg (N := 76) ?hd (xs := ([rd t544 x11_4] : List Int)) (inner := [.int .u64 (rd t544 x11_4)]) (ok := fun _ => True) (okp := fun _ => True) ?hr ?hp (fun _ hk => hk) trivial (Below.refl _ _) (Nat.le_refl _) (by simp) ?_; (case hd => rfl); (case hg => rfl); (case hr => exact gs_); (case hp => exact (Reps.one (show Kd.M (Kd.int .u64) _ _ _ (rd t544 x11_4) [.int .u64 (rd t544 x11_4)] from rfl) (Reps.none _ _)))
                   intro v567 w68 ho69 hb hg_ hnew_
                   have HS0_ := (hb.cell (World.block_lt_of_cell? _ _ (hHeld))).trans (hHeld)
                   clear hg_ hnew_
                   (first | rw [← Ny566.out] at ho69 | (simp only [Int.reduceToNat] at ho69; rw [← Ny566.out] at ho69))
                   have n0_ := jA.mk (Kd.jK (rR_ HO_7) (Kd.jL ho69) hb)
                   have n1_ := jA.mk (Kd.jK (rR_ HO_8) (Kd.jL ho69) hb)
                   have n2_ := jA.mk (Kd.jK (rR_ HO_10) (Kd.jL ho69) hb)
                   have n3_ := jA.mk (Kd.jS (Kd.jN (Kd.jN (Kd.jN ho69 (Kd.R_lt (rR_ HO_7))) (Kd.R_lt (rR_ HO_8))) (Kd.R_lt (rR_ HO_10))) (jB (bb_ HB)))
                   have n4_ := jA.mk (jC (bb_ HB) hb)
                   clear HO_7
                   clear HO_8
                   clear HO_10
                   clear HB
                   have HO_7 := n0_
                   have HO_8 := n1_
                   have HO_10 := n2_
                   have HO568 := n3_
                   have HB := n4_
                   clear n0_ n1_ n2_ n3_ n4_
                   clear hb ho69
                   refine hK.out _ _ (HS0_) (fun hHeld => ?_)
                   clear hK K
                   refine qO (a' := ?_) ?_ ?_
                   rotate_left
                   ·
                    show Act.put _ (some 76) _ = _
                    simp only [Act.put, ss_, jk, jo]
                    rfl
                   refine one_ (i := 1) (N := some 70) #[true, true, false, true, true, true, true, true, false, false] rfl rfl (jAK HT_.out kr_) (by decide) (fun K hK => ?_)
                   refine Kd.qd (Kd.int .u64) _ 22 ?hg (N := 70) ?hd (xs := ([4294967296] : List Int)) (inner := [.int .u64 4294967296]) (ok := fun _ => True) (okp := fun _ => True) ?hr ?hp (fun _ hk => hk) trivial (Below.refl _ _) (Nat.le_refl _) (by simp) ?_; (case hd => rfl); (case hg => rfl); (case hr => exact gs_); (case hp => exact (Reps.one (show Kd.M (Kd.int .u64) _ _ _ 4294967296 [.int .u64 4294967296] from rfl) (Reps.none _ _)))
                   intro v560 w70 ho71 hb hg_ hnew_
                   have HS0_ := (hb.cell (World.block_lt_of_cell? _ _ (hHeld))).trans (hHeld)
                   clear hg_ hnew_
                   (first | rw [← Ny559.out] at ho71 | (simp only [Int.reduceToNat] at ho71; rw [← Ny559.out] at ho71))
                   have n0_ := jA.mk (Kd.jK (rR_ HO_7) (Kd.jL ho71) hb)
                   have n1_ := jA.mk (Kd.jK (rR_ HO_8) (Kd.jL ho71) hb)
                   have n2_ := jA.mk (Kd.jK (rR_ HO_10) (Kd.jL ho71) hb)
                   have n3_ := jA.mk (Kd.jK (rR_ HO568) (Kd.jL ho71) hb)
                   have n4_ := jA.mk (Kd.jS (Kd.jN (Kd.jN (Kd.jN (Kd.jN ho71 (Kd.R_lt (rR_ HO_7))) (Kd.R_lt (rR_ HO_8))) (Kd.R_lt (rR_ HO_10))) (Kd.R_lt (rR_ HO568))) (jB (bb_ HB)))
                   have n5_ := jA.mk (jC (bb_ HB) hb)
                   clear HO_7
                   clear HO_8
                   clear HO_10
                   clear HO568
                   clear HB
                   have HO_7 := n0_
                   have HO_8 := n1_
                   have HO_10 := n2_
                   have HO568 := n3_
                   have HO561 := n4_
                   have HB := n5_
                   clear n0_ n1_ n2_ n3_ n4_ n5_
                   clear hb ho71
                   obtain ⟨Ao72, co72, eo72⟩ := Kd.jc HO561.out
                   (first | subst eo72 | (injection eo72 with f1_ f2_ f3_; have f4_ := f1_.symm; have f5_ := f3_.symm; clear f1_ f2_ f3_; subst f4_; subst f5_))
                   refine hK.out _ _ (HS0_) (fun hHeld => ?_)
                   clear hK K
                   refine qO (a' := ?_) ?_ ?_
                   rotate_left
                   ·
                    show Act.put _ (some 70) _ = _
                    simp only [Act.put, ss_, jk, jo]
                    rfl
                   refine one_ (i := 2) (N := some 71) #[true, true, true, true, true, true, true, true, false, false] rfl rfl (jAK HT_.out kr_) (by decide) (fun K hK => ?_)
                   refine jBJ Try.func23 kr_ rfl #[.slice Ao66 x10_4.length co66, .slice Ao72 y559.length co72] (by rfl) rfl rfl mt_ ?_
                   with_reducible refine (jG.calls k4 _ _ x10_4 _ _ y559 t562 _ ?side1 ?side2 ?side3 ?side4 A32.out).mono ?_
                   (case side1 => exact cc_ (Kd.jI HO_10.out).2.2)
                   (case side2 => exact (Kd.jI HO_10.out).2.1)
                   (case side3 => exact cc_ (Kd.jI HO561.out).2.2)
                   (case side4 => exact (Kd.jI HO561.out).2.1)
                   rintro e w73 ⟨v563, rfl, ho0, hb⟩
                   have HS0_ := (hb.cell (World.block_lt_of_cell? _ _ (hHeld))).trans (hHeld)
                   refine ⟨_, rfl, ?_⟩
                   have n0_ := jA.mk (Kd.jK (rR_ HO_7) (Kd.jL ho0) hb)
                   have n1_ := jA.mk (Kd.jK (rR_ HO_8) (Kd.jL ho0) hb)
                   have n2_ := jA.mk (Kd.jK (rR_ HO_10) (Kd.jL ho0) hb)
                   have n3_ := jA.mk (Kd.jK (rR_ HO568) (Kd.jL ho0) hb)
                   have n4_ := jA.mk (Kd.jK (rR_ HO561) (Kd.jL ho0) hb)
                   have n5_ := jA.mk (Kd.jS (Kd.jN (Kd.jN (Kd.jN (Kd.jN (Kd.jN ho0 (Kd.R_lt (rR_ HO_7))) (Kd.R_lt (rR_ HO_8))) (Kd.R_lt (rR_ HO_10))) (Kd.R_lt (rR_ HO568))) (Kd.R_lt (rR_ HO561))) (jB (bb_ HB)))
                   have n6_ := jA.mk (jC (bb_ HB) hb)
                   clear HO_7
                   clear HO_8
                   clear HO_10
                   clear HO568
                   clear HO561
                   clear HB
                   have HO_7 := n0_
                   have HO_8 := n1_
                   have HO_10 := n2_
                   have HO568 := n3_
                   have HO561 := n4_
                   have HO564 := n5_
                   have HB := n6_
                   clear n0_ n1_ n2_ n3_ n4_ n5_ n6_
                   (try clear hb)
                   (try clear hb2)
                   (try clear hk)
                   (try clear hi)
                   (try clear ho0)
                   refine hK.out _ _ (HS0_) (fun hHeld => ?_)
                   clear hK K
                   refine qO (a' := ?_) ?_ ?_
                   rotate_left
                   ·
                    show Act.put _ (some 71) _ = _
                    simp only [Act.put, ss_, jk, jo]
                    rfl
                   exact qO (by simp only [jBI, Act.put, ss_]) (hCont (.slice Ao72 y559.length co72, v563, v567) _ ⟨hHeld, (by refine pR_ ?_; exact Kd.jP HO561.out (fun _ hk => ⟨hk.2, ⟨hk.1.2, ⟨hk.1.1.2, ⟨hk.1.1.1.1.2, hk.1.1.1.2⟩⟩⟩⟩)), (by refine pR_ ?_; exact Kd.jP HO564.out (fun _ hk => ⟨hk.2, ⟨hk.1.2, ⟨hk.1.1.2, ⟨hk.1.1.1.1.2, hk.1.1.1.2⟩⟩⟩⟩)), (by refine pR_ ?_; exact Kd.jP HO568.out (fun _ hk => ⟨hk.1.2, ⟨hk.2, ⟨hk.1.1.2, ⟨hk.1.1.1.1.2, hk.1.1.1.2⟩⟩⟩⟩)), (by refine pR_ ?_; exact Kd.jP HO_10.out (fun _ hk => ⟨hk.1.2, ⟨hk.2, ⟨hk.1.1.2, ⟨hk.1.1.1.1, hk.1.1.1.2⟩⟩⟩⟩)), (by refine pR_ ?_; exact Kd.jP HO_7.out (fun _ hk => ⟨hk.1.2, ⟨hk.2, ⟨hk.1.1.2, ⟨hk.1.1.1.2, hk.1.1.1.1⟩⟩⟩⟩)), (by refine pR_ ?_; exact Kd.jP HO_8.out (fun _ hk => ⟨hk.1.2, ⟨hk.2, ⟨hk.1.1.2, ⟨hk.1.1.1.2, hk.1.1.1.1⟩⟩⟩⟩)), (bb_ HB)⟩)
                 rintro ⟨v560, v563, v567⟩ w74 ⟨hS_, h0_, h1_, h2_, h3_, h4_, h5_, h6_⟩
                 have n0_ : jA (Kd.R (Kd.int .u64) 22 w74 w.heap.size (fun k_ => some k_ ≠ (v563 : Value).ownBlock ∧ some k_ ≠ (v567 : Value).ownBlock ∧ some k_ ≠ (.slice Ao66 x10_4.length co66 : Value).ownBlock ∧ some k_ ≠ (.slice (some ad565) t544.length co28 : Value).ownBlock ∧ some k_ ≠ (u8 : Value).ownBlock) v560 y559) := ⟨h0_⟩
                 have n1_ : jA (Kd.R (Kd.int .u64) 22 w74 w.heap.size (fun k_ => some k_ ≠ (v560 : Value).ownBlock ∧ some k_ ≠ (v567 : Value).ownBlock ∧ some k_ ≠ (.slice Ao66 x10_4.length co66 : Value).ownBlock ∧ some k_ ≠ (.slice (some ad565) t544.length co28 : Value).ownBlock ∧ some k_ ≠ (u8 : Value).ownBlock) v563 t562) := ⟨h1_⟩
                 have n2_ : jA (Kd.R (Kd.int .u64) 22 w74 w.heap.size (fun k_ => some k_ ≠ (v560 : Value).ownBlock ∧ some k_ ≠ (v563 : Value).ownBlock ∧ some k_ ≠ (.slice Ao66 x10_4.length co66 : Value).ownBlock ∧ some k_ ≠ (.slice (some ad565) t544.length co28 : Value).ownBlock ∧ some k_ ≠ (u8 : Value).ownBlock) v567 y566) := ⟨h2_⟩
                 have n3_ : jA (Kd.R (Kd.int .u64) 22 w74 w.heap.size (fun k_ => some k_ ≠ (v560 : Value).ownBlock ∧ some k_ ≠ (v563 : Value).ownBlock ∧ some k_ ≠ (v567 : Value).ownBlock ∧ some k_ ≠ (.slice (some ad565) t544.length co28 : Value).ownBlock ∧ some k_ ≠ (u8 : Value).ownBlock) (.slice Ao66 x10_4.length co66) x10_4) := ⟨h3_⟩
                 have n4_ : jA (Kd.R (Kd.int .u64) 22 w74 w.heap.size (fun k_ => some k_ ≠ (v560 : Value).ownBlock ∧ some k_ ≠ (v563 : Value).ownBlock ∧ some k_ ≠ (v567 : Value).ownBlock ∧ some k_ ≠ (.slice Ao66 x10_4.length co66 : Value).ownBlock ∧ some k_ ≠ (u8 : Value).ownBlock) (.slice (some ad565) t544.length co28) t544) := ⟨h4_⟩
                 have n5_ : jA (Kd.R (Kd.int .u64) 22 w74 w.heap.size (fun k_ => some k_ ≠ (v560 : Value).ownBlock ∧ some k_ ≠ (v563 : Value).ownBlock ∧ some k_ ≠ (v567 : Value).ownBlock ∧ some k_ ≠ (.slice Ao66 x10_4.length co66 : Value).ownBlock ∧ some k_ ≠ (.slice (some ad565) t544.length co28 : Value).ownBlock) u8 x8_4) := ⟨h5_⟩
                 have n6_ : jA (Below w.heap.size w w74) := ⟨h6_⟩
                 clear HO_7
                 clear HO_8
                 clear HO_10
                 clear HB
                 clear h0_ h1_ h2_ h3_ h4_ h5_ h6_
                 have HO561 := n0_
                 have HO564 := n1_
                 have HO568 := n2_
                 have HO_10 := n3_
                 have HO_7 := n4_
                 have HO_8 := n5_
                 have HB := n6_
                 clear n0_ n1_ n2_ n3_ n4_ n5_ n6_
                 have hHeld : w74.cell? (ad565.add (x11_4).toNat) = some (.int .u64 (rd t544 x11_4)) := hS_
                 obtain ⟨Ao75, co75, eo75⟩ := Kd.jc HO564.out
                 (first | subst eo75 | (injection eo75 with f1_ f2_ f3_; have f4_ := f1_.symm; have f5_ := f3_.symm; clear f1_ f2_ f3_; subst f4_; subst f5_))
                 obtain ⟨Ao76, co76, eo76⟩ := Kd.jc HO568.out
                 (first | subst eo76 | (injection eo76 with f1_ f2_ f3_; have f4_ := f1_.symm; have f5_ := f3_.symm; clear f1_ f2_ f3_; subst f4_; subst f5_))
                 refine qO (a' := ?_) ?_ ?_
                 rotate_left
                 ·
                  simp only [jBI, Act.put, ss_]
                  rfl
                 refine one_ (i := 8) (N := some 77) #[true, true, true, true, true, true, true, true, true, false] rfl rfl (jAK HT_.out kr_) (by decide) (fun K hK => ?_)
                 refine jBJ Try.func102 kr_ rfl #[.slice Ao75 t562.length co75, .slice Ao76 y566.length co76] (by rfl) rfl rfl mt_ ?_
                 with_reducible refine (jQ.calls k4 _ _ t562 _ _ y566 t569 _ ?side1 ?side2 ?side3 ?side4 A35.out).mono ?_
                 (case side1 => exact cc_ (Kd.jI HO564.out).2.2)
                 (case side2 => exact (Kd.jI HO564.out).2.1)
                 (case side3 => exact cc_ (Kd.jI HO568.out).2.2)
                 (case side4 => exact (Kd.jI HO568.out).2.1)
                 rintro e w77 ⟨v570, rfl, ho0, hb⟩
                 have HS0_ := (hb.cell (World.block_lt_of_cell? _ _ (hHeld))).trans (hHeld)
                 refine ⟨_, rfl, ?_⟩
                 have n0_ := jA.mk (Kd.jK (rR_ HO_7) (Kd.jL ho0) hb)
                 have n1_ := jA.mk (Kd.jK (rR_ HO_8) (Kd.jL ho0) hb)
                 have n2_ := jA.mk (Kd.jK (rR_ HO_10) (Kd.jL ho0) hb)
                 have n3_ := jA.mk (Kd.jK (rR_ HO561) (Kd.jL ho0) hb)
                 have n4_ := jA.mk (Kd.jK (rR_ HO564) (Kd.jL ho0) hb)
                 have n5_ := jA.mk (Kd.jK (rR_ HO568) (Kd.jL ho0) hb)
                 have n6_ := jA.mk (Kd.jS (Kd.jN (Kd.jN (Kd.jN (Kd.jN (Kd.jN (Kd.jN ho0 (Kd.R_lt (rR_ HO_7))) (Kd.R_lt (rR_ HO_8))) (Kd.R_lt (rR_ HO_10))) (Kd.R_lt (rR_ HO561))) (Kd.R_lt (rR_ HO564))) (Kd.R_lt (rR_ HO568))) (jB (bb_ HB)))
                 have n7_ := jA.mk (jC (bb_ HB) hb)
                 clear HO_7
                 clear HO_8
                 clear HO_10
                 clear HO561
                 clear HO564
                 clear HO568
                 clear HB
                 have HO_7 := n0_
                 have HO_8 := n1_
                 have HO_10 := n2_
                 have HO561 := n3_
                 have HO564 := n4_
                 have HO568 := n5_
                 have HO571 := n6_
                 have HB := n7_
                 clear n0_ n1_ n2_ n3_ n4_ n5_ n6_ n7_
                 (try clear hb)
                 (try clear hb2)
                 (try clear hk)
                 (try clear hi)
                 (try clear ho0)
                 refine hK.out _ _ (HS0_) (fun hHeld => ?_)
                 clear hK K
                 refine qO (a' := ?_) ?_ ?_
                 rotate_left
                 ·
                  show Act.put _ (some 77) _ = _
                  simp only [Act.put, ss_, jk, jo]
                  rfl
                 refine vU (i := 9) (N := some 10) (v := ?_) (a' := ?_) #[true, true, true, true, true, true, true, true, true, true] rfl rfl (vQ HT_.out kr_) (fun _ _ _ h => h) (Or.inl ⟨by rfl, ?_⟩) ?_ ?_
                 rotate_left
                 ·
                  intro w'
                  go_simp
                  with_reducible rfl
                 rotate_left
                 ·
                  simp only [Act.put, ss_, jk, jo]
                  rfl
                 refine jBW (jBK HT_.out kr_) ?_
                 obtain ⟨Ao78, co78, eo78⟩ := Kd.jc HO571.out
                 subst eo78
                 try go_wp2_with (first | ((with_reducible refine jJ (f := 103) rfl ?_); refine jr (some 80) rfl rfl Try.func103 kr_ rfl #[.slice Ao78 t569.length co78, .slice A1 l1.length c1] rfl mt_ ?_; (with_reducible refine (jR.calls k4 _ _ t569 _ _ l1 t572 _ ?side1 ?side2 ?side3 ?side4 A36.out).mono ?_); (case side1 => exact cc_ (Kd.jI HO571.out).2.2); (case side2 => exact (Kd.jI HO571.out).2.1); (case side3 => exact cc_ (Kd.je HR1.out HB.out)); (case side4 => exact HC1.out); rintro e w79 ⟨rfl, hb⟩; refine ⟨_, rfl, ?_⟩; have n0_ := jA.mk (Kd.jy (rR_ HO_7) hb); have n1_ := jA.mk (Kd.jy (rR_ HO_8) hb); have n2_ := jA.mk (Kd.jy (rR_ HO_10) hb); have n3_ := jA.mk (Kd.jy (rR_ HO561) hb); have n4_ := jA.mk (Kd.jy (rR_ HO564) hb); have n5_ := jA.mk (Kd.jy (rR_ HO568) hb); have n6_ := jA.mk (Kd.jy (rR_ HO571) hb); have n7_ := jA.mk (jC (bb_ HB) hb); clear HO_7 HO_8 HO_10 HO561 HO564 HO568 HO571 HB; have HO_7 := n0_; have HO_8 := n1_; have HO_10 := n2_; have HO561 := n3_; have HO564 := n4_; have HO568 := n5_; have HO571 := n6_; have HB := n7_; clear n0_ n1_ n2_ n3_ n4_ n5_ n6_ n7_))
                 go_roundg k4
                 case measure => have := HJ2.out; have := HJ8.out; have := HK3.out; have := HK4.out; omega
                 case rel => exact ⟨(x8_4), (t569), (wrap64 (x11_4 - 1)), sd_, H', ⟨by have := HJ2.out; have := HJ8.out; have := HK3.out; have := HK4.out; omega⟩, ⟨by (with_reducible repeat (first | apply Kd.zQ | apply Kd.zU | apply Kd.ze)); exact Kd.jP HO_7.out (fun _ hk => ⟨hk.1.2.2.2.2, hk.2⟩)⟩, ⟨by (with_reducible repeat (first | apply Kd.zQ | apply Kd.zU | apply Kd.ze)); exact Kd.jP HO_8.out (fun _ hk => ⟨hk.1.2.2.2.2, hk.2⟩)⟩, ⟨by (with_reducible repeat (first | apply Kd.zQ | apply Kd.zU | apply Kd.ze)); exact Kd.jP HO571.out (fun _ hk => ⟨hk.1.1.1.1.1.2, hk.1.1.1.1.2⟩)⟩, ⟨(bb_ HB)⟩⟩
               ·
                rw [if_neg c34] at H
                exact absurd H (by simp)
              ·
               rw [if_neg c33] at H
               exact absurd H (by simp)
             ·
              rw [if_neg c31] at H
              have c31b0 := decide_eq_false c31
              clear c31
              replace H := ob_ H
              obtain ⟨t556, A800, H⟩ := H
              try dsimp only at H
              have A80 := jA.mk A800
              clear A800
              simp only [Option.some.injEq, Prod.mk.injEq] at H
              obtain ⟨rfl, rfl, rfl⟩ := H
              obtain ⟨Ao81, co81, eo81⟩ := Kd.jc HO_8.out
              subst eo81
              go_wp2_with (first | ((with_reducible refine jJ (f := 70) rfl ?_); refine jr (some 102) rfl rfl Try.func70 kr_ rfl #[.slice Ao81 x8_4.length co81] rfl mt_ ?_; (with_reducible refine (jO.calls k4 _ _ x8_4 t556 _ ?side1 ?side2 A80.out).mono ?_); (case side1 => exact cc_ (Kd.jI HO_8.out).2.2); (case side2 => exact (Kd.jI HO_8.out).2.1); rintro e w82 ⟨v557, rfl, ho0, hb⟩; refine ⟨_, rfl, ?_⟩; have n0_ := jA.mk (Kd.jK (rR_ HO_7) (Kd.jL ho0) hb); have n1_ := jA.mk (Kd.jK (rR_ HO_8) (Kd.jL ho0) hb); have n2_ := jA.mk (Kd.jK (rR_ HO_10) (Kd.jL ho0) hb); have n3_ := jA.mk (Kd.jS (Kd.jN (Kd.jN (Kd.jN ho0 (Kd.R_lt (rR_ HO_7))) (Kd.R_lt (rR_ HO_8))) (Kd.R_lt (rR_ HO_10))) (jB (bb_ HB))); have n4_ := jA.mk (jC (bb_ HB) hb); clear HO_7 HO_8 HO_10 HB; have HO_7 := n0_; have HO_8 := n1_; have HO_10 := n2_; have HO558 := n3_; have HB := n4_; clear n0_ n1_ n2_ n3_ n4_))
              go_ret3
              exact ⟨_, _, ew_, by refine pR_ ?_; exact Kd.jP HO558.out (fun _ hk => hk.2), by refine pR_ ?_; exact Kd.jP HO_10.out (fun _ hk => hk.2), (bb_ HB)⟩

end Go.Proofs.Ytijgeonhbmgikaa.PORatioSums
