-- printed (pr.py)
import Derived.Test.YtijgeonhbmgikaaPORatioFieldx13
namespace Go.Proofs.Ytijgeonhbmgikaa.PORatioField
open Go.RowKit Go.Proofs.YtijgeonhbmgikaaN Go.Proofs.YtijgeonhbmgikaaW.PrintWords Go.Proofs.YtijgeonhbmgikaaW.PrintLast Go.Proofs.YtijgeonhbmgikaaW.PrintMore
attribute [local go_sem] qH qF qg qd zq zo qG qE
set_option maxHeartbeats 8000000
set_option maxRecDepth 100000
set_option linter.unusedVariables false
set_option linter.unusedSimpArgs false
mutual
def jD.j0 : Nat → List Int → List Int → Bool → Option (List Int × List Int × Int)
 | 0, _, _, _ => none
 | k + 1, x0, x1, x21 => if x21 = true then (some (([] : List Int), ([] : List Int), 1)) else (if (x1.length : Int) = 0 then (some (([] : List Int), ([] : List Int), 30)) else (if (x0.length : Int) = 1 then (jD.j1 k x0 x1 ((x1.length : Int) == 1)) else (jD.j1 k x0 x1 false)))
def jD.j1 : Nat → List Int → List Int → Bool → Option (List Int × List Int × Int)
 | 0, _, _, _ => none
 | k + 1, x0, x1, x32 => if x32 = true then (if 0 < (x0.length : Int) then (if 0 < (x1.length : Int) then (if (rd x1 0) = 0 then (none) else ((zN.f k (IntKind.u64.wrap (Int.tdiv (rd x0 0) (rd x1 0)))).bind fun t518 => ((zN.f k (Int.tmod (rd x0 0) (rd x1 0))).bind fun t523 => (some (t518, t523, 0))))) else (none)) else (none)) else ((jG.f k x0).bind fun t526 => (jD.l0 k x1 t526 (([] : List Int)) 0))
def jD.l0 : Nat → List Int → List Int → List Int → Int → Option (List Int × List Int × Int)
 | 0, _, _, _, _ => none
 | k + 1, x1, x7, x8, x9 => if x9 < (x7.length : Int) then (if x8.length < 17592186044416 then (jD.l0 k x1 x7 (x8 ++ [0]) (wrap64 (x9 + 1))) else (none)) else (jD.l1 k x1 x7 x8 (([] : List Int)) (wrap64 ((x7.length : Int) - 1)))
def jD.l1 : Nat → List Int → List Int → List Int → List Int → Int → Option (List Int × List Int × Int)
 | 0, _, _, _, _, _ => none
 | k + 1, x1, x7, x8, x10, x11 => if x11 ≥ 0 then ((jF.f k x10 (([4294967296] : List Int))).bind fun t544 => (if 0 ≤ x11 then (if x11 < (x7.length : Int) then ((jO.f k t544 (([rd x7 x11] : List Int))).bind fun t551 => ((jR.f k t551 x1).bind fun t554 => (if t554 ≥ 0 then ((jY.f k t551 x1).bind fun t555 => (if x11 < (x8.length : Int) then ((some (x8.set (x11 : Int).toNat t555 : List Int)).bind fun y556 => ((jF.f k x1 (([rd y556 x11] : List Int))).bind fun t561 => ((jc.f k t551 t561).bind fun bt564 => (jD.l1 k x1 x7 y556 bt564.1 (wrap64 (x11 - 1)))))) else (none))) else (jD.l1 k x1 x7 x8 t551 (wrap64 (x11 - 1)))))) else (none)) else (none))) else ((jM.f k x8).bind fun t538 => (some (t538, x10, 0)))
end
def jD.f (k : Nat) (l0 : List Int) (l1 : List Int) : Option (List Int × List Int × Int) := (vK.f l0).bind fun t514 => (if t514 = true then ((vK.f l1).bind fun t515 => (jD.j0 k l0 l1 (!t515))) else (jD.j0 k l0 l1 true))
theorem jD.vS : ∀ k, (∀ y0 y1 y2, LeO (jD.j0 k y0 y1 y2) (jD.j0 (k + 1) y0 y1 y2)) ∧ (∀ y0 y1 y2, LeO (jD.j1 k y0 y1 y2) (jD.j1 (k + 1) y0 y1 y2)) ∧ (∀ y0 y1 y2 y3, LeO (jD.l0 k y0 y1 y2 y3) (jD.l0 (k + 1) y0 y1 y2 y3)) ∧ (∀ y0 y1 y2 y3 y4, LeO (jD.l1 k y0 y1 y2 y3 y4) (jD.l1 (k + 1) y0 y1 y2 y3 y4))
 | 0 => ⟨fun _ _ _ r h => by simp [jD.j0] at h, fun _ _ _ r h => by simp [jD.j1] at h, fun _ _ _ _ r h => by simp [jD.l0] at h, fun _ _ _ _ _ r h => by simp [jD.l1] at h⟩
 | k + 1 => by
  obtain ⟨ih0, ih1, ih2, ih3⟩ := jD.vS k
  refine ⟨?_, ?_, ?_, ?_⟩ <;> (intros; first | unfold jD.j0 | unfold jD.j1 | unfold jD.l0 | unfold jD.l1) <;> repeat' first
   | (with_reducible exact ih0 _ _ _)
   | (with_reducible exact ih1 _ _ _)
   | (with_reducible exact ih2 _ _ _ _)
   | (with_reducible exact ih3 _ _ _ _ _)
   | (with_reducible exact jO.mono _ _ _)
   | (with_reducible exact jR.mono _ _ _)
   | (with_reducible exact jG.mono _ _)
   | (with_reducible exact jF.mono _ _ _)
   | (with_reducible exact jc.mono _ _ _)
   | (with_reducible exact jM.mono _ _)
   | (with_reducible exact zN.mono _ _)
   | (with_reducible exact jY.mono _ _ _)
   | (with_reducible exact LeO.refl _)
   | (with_reducible exact LeO.none _)
   | (with_reducible refine LeO.ite ?_ ?_)
   | (with_reducible refine LeO.bind ?_ (fun _ => ?_))
theorem jD.mono : ∀ a0 a1 k, LeO (jD.f k a0 a1) (jD.f (k + 1) a0 a1) := by
 intro a0 a1 k
 obtain ⟨ih0, ih1, ih2, ih3⟩ := jD.vS k
 unfold jD.f
 repeat' first
   | (with_reducible exact ih0 _ _ _)
   | (with_reducible exact ih1 _ _ _)
   | (with_reducible exact ih2 _ _ _ _)
   | (with_reducible exact ih3 _ _ _ _ _)
   | (with_reducible exact jO.mono _ _ _)
   | (with_reducible exact jR.mono _ _ _)
   | (with_reducible exact jG.mono _ _)
   | (with_reducible exact jF.mono _ _ _)
   | (with_reducible exact jc.mono _ _ _)
   | (with_reducible exact jM.mono _ _)
   | (with_reducible exact zN.mono _ _)
   | (with_reducible exact jY.mono _ _ _)
   | (with_reducible exact LeO.refl _)
   | (with_reducible exact LeO.none _)
   | (with_reducible refine LeO.ite ?_ ?_)
   | (with_reducible refine LeO.bind ?_ (fun _ => ?_))
def jD.T6 : Bool × List (List Nat × List Nat) := (true, [([], []), ([0], [0]), ([1], [1]), ([], []), ([3], [3]), ([4], [4]), ([2, 5], [2, 5]), ([6], [6]), ([], []), ([8], [8]), ([9], [9]), ([], []), ([11], [11]), ([12], [12]), ([10, 13], [10, 13]), ([14, 7], [14]), ([7, 15, 0, 1, 2, 3, 4, 5, 6, 7], [7]), ([15, 16, 0, 1, 2, 3, 4, 5, 6, 7, 8, 9, 10, 11, 12, 13, 14, 15, 16], [15]), ([17, 0, 1, 2, 3, 4, 5, 6, 7, 8, 9, 10, 11, 12, 13, 14, 15, 16, 17], [])])
def jD.B6 : List Nat := [0, 1, 3, 0, 8, 24, 63, 127, 0, 256, 768, 0, 2048, 6144, 16128, 32767, 65535, 131071, 262143]
theorem jD.tab6 : rtab .any (opsOf Try.f78 6) = jD.T6 := by kernel_rfl
theorem jD.jKj : jAL jD.T6.2 jD.B6 = true := by kernel_rfl
def jD.T17 : Bool × List (List Nat × List Nat) := (true, [([], []), ([], []), ([0, 1], [0, 1]), ([], []), ([], []), ([3, 4], [3, 4]), ([5], [5]), ([6], [6]), ([2, 7, 2], [2, 7]), ([8, 8, 0, 1, 2, 3, 4, 5, 6, 7, 8], [0, 8])])
def jD.B17 : List Nat := [0, 0, 3, 0, 0, 24, 56, 120, 255, 511]
theorem jD.jJM : rtab .any (opsOf Try.f78 17) = jD.T17 := by kernel_rfl
theorem jD.jHz : jAL jD.T17.2 jD.B17 = true := by kernel_rfl
theorem jD.calls (k : Nat) (A0 : Option Addr) (c0 : Nat) (l0 : List Int) (A1 : Option Addr) (c1 : Nat) (l1 : List Int) (r1 : List Int) (r2 : List Int) (r3 : Int) (w : World) (hr0 : Kd.C (Kd.int .u64) w A0 l0.length l0) (hc0 : l0.length ≤ c0) (hr1 : Kd.C (Kd.int .u64) w A1 l1.length l1) (hc1 : l1.length ≤ c1) (h : jD.f k l0 l1 = some (r1, r2, r3)) :
  Calls Try.prog 78 #[.slice A0 l0.length c0, .slice A1 l1.length c1] w fun e w' => ∃ v0_ v1_ : Value, e = .returned (.tuple #[v0_, v1_, .int .i64 r3]) ∧ Kd.R (Kd.int .u64) 22 w' w.heap.size (fun k_ => some k_ ≠ (v1_ : Value).ownBlock) v0_ r1 ∧ Kd.R (Kd.int .u64) 22 w' w.heap.size (fun k_ => some k_ ≠ (v0_ : Value).ownBlock) v1_ r2 ∧ Below w.heap.size w w' := by
 have HR0 := jA.mk hr0
 have HC0 := jA.mk hc0
 clear hr0 hc0
 have HR1 := jA.mk hr1
 have HC1 := jA.mk hc1
 clear hr1 hc1
 have HB := jA.mk (Below.refl w.heap.size w)
 have H : ((vK.f l0).bind fun t514 => (if t514 = true then ((vK.f l1).bind fun t515 => (jD.j0 k l0 l1 (!t515))) else (jD.j0 k l0 l1 true))) = some (r1, r2, r3) := h
 clear h
 have HC3 := jA.mk H
 clear H
 go_enter Try.func78, Try.ntmps78
 go_upto_region 1 with (fail)
 go_cut [21] (fun v21 wc => ∃ (kq : Nat) (x21_2 : Bool), v21 = .bool x21_2 ∧ jA (jD.j0 kq l0 l1 x21_2 = some (r1, r2, r3)) ∧ jA (kq ≤ k) ∧ jA (Below w.heap.size w wc))
 case first =>
  have H := HC3.out
  clear HC3
  obtain ⟨t514, A4, H⟩ := oc_ H
  try dsimp only at H
  by_cases c5 : t514 = true
  ·
   subst c5
   replace H := ip_ H
   obtain ⟨t515, A6, H⟩ := oc_ H
   try dsimp only at H
   have H' := jA.mk H
   clear H
   go_wp2_with (first | ((with_reducible refine jH (f := 74) rfl ?_); refine gl_ (some 15) Try.func74 #[.slice A0 l0.length c0] ?_; (with_reducible refine (vK.calls _ _ l0 true _ ?side1 ?side2 A4.out).mono ?_); (case side1 => exact cb_ HR0 HB); (case side2 => exact HC0.out); rintro e w' ⟨rfl, ⟨nd, rfl⟩⟩; refine ⟨_, rfl, ?_⟩) | ((with_reducible refine jX (N := 19) rfl ?_); (try (refine jr (by rfl) ?_; dsimp only)); refine jr (by first | rfl | kernel_rfl) ?_; dsimp only; (with_reducible refine jH (f := 74) rfl ?_); refine gl_ (some 19) Try.func74 #[.slice A1 l1.length c1] ?_; (with_reducible refine (vK.calls _ _ l1 t515 _ ?side1 ?side2 A6.out).mono ?_); (case side1 => repeat (first | exact (Kd.zl HR1.out (bb_ HB)) | (with_reducible refine Kd.zJ ?_ _) | (with_reducible refine Kd.zU ?_ _) | (with_reducible refine Kd.zx ?_))); (case side2 => exact HC1.out); rintro e w' ⟨rfl, ⟨nd, rfl⟩⟩; refine ⟨_, rfl, ?_⟩))
   go_meet
   case rel => exact ⟨_, (!t515), sd_, H', ⟨by first | omega | exact Nat.le_refl _⟩, ⟨(bb_ HB)⟩⟩
  ·
   replace c5 := Bool.eq_false_iff.mpr c5
   subst c5
   replace H := in_ H
   have H' := jA.mk H
   clear H
   go_wp2_with (first | ((with_reducible refine jH (f := 74) rfl ?_); refine gl_ (some 15) Try.func74 #[.slice A0 l0.length c0] ?_; (with_reducible refine (vK.calls _ _ l0 false _ ?side1 ?side2 A4.out).mono ?_); (case side1 => exact cb_ HR0 HB); (case side2 => exact HC0.out); rintro e w' ⟨rfl, ⟨nd, rfl⟩⟩; refine ⟨_, rfl, ?_⟩))
   go_meet
   case rel => exact ⟨_, (true), sd_, H', ⟨by first | omega | exact Nat.le_refl _⟩, ⟨(bb_ HB)⟩⟩
 case rest =>
  clear HC3
  try clear c1
  try clear p2
  try clear c5
  obtain ⟨kq, x21_2, rfl, HA, HJ2, HB⟩ := hcut
  cases kq with
  | zero => exact absurd HA.out (by simp [jD.j0])
  | succ kj2 =>
   have H := HA.out
   clear HA
   simp only [jD.j0] at H
   by_cases c7 : x21_2 = true
   ·
    subst c7
    replace H := ip_ H
    simp only [Option.some.injEq, Prod.mk.injEq] at H
    obtain ⟨rfl, rfl, rfl⟩ := H
    go_wp2
    go_ret3
    exact ⟨_, _, ew_, nl_, nl_, (bb_ HB)⟩
   ·
    replace c7 := Bool.eq_false_iff.mpr c7
    subst c7
    replace H := in_ H
    by_cases c8 : (l1.length : Int) = 0
    ·
     rw [if_pos c8] at H
     have c8b0 := beq_iff_eq.mpr c8
     have c8b1 := bne_eq_false_iff_eq.mpr c8
     clear c8
     simp only [Option.some.injEq, Prod.mk.injEq] at H
     obtain ⟨rfl, rfl, rfl⟩ := H
     go_wp2
     go_ret3
     exact ⟨_, _, ew_, nl_, nl_, (bb_ HB)⟩
    ·
     rw [if_neg c8] at H
     have c8b0 := beq_eq_false_iff_ne.mpr c8
     have c8b1 := bne_iff_ne.mpr c8
     have c8b2 : ¬ (l1 = []) := fun h_ => c8 (by rw [h_]; rfl)
     have HC9 := jA.mk H
     clear H
     go_upto_region 5 with (fail)
     go_cut [32] (fun v32 wc => ∃ (kq : Nat) (x32_8 : Bool), v32 = .bool x32_8 ∧ jA (jD.j1 kq l0 l1 x32_8 = some (r1, r2, r3)) ∧ jA (kq ≤ kj2) ∧ jA (Below w.heap.size w wc))
     case first =>
      have H := HC9.out
      clear HC9
      by_cases c10 : (l0.length : Int) = 1
      ·
       rw [if_pos c10] at H
       have c10b0 := beq_iff_eq.mpr c10
       have c10b1 := bne_eq_false_iff_eq.mpr c10
       clear c10
       (first | rw [c10b0] | (simp only [qZ, jAd]; rw [c10b0]) | skip)
       have H' := jA.mk H
       clear H
       go_wp2
       go_meet
       case rel => exact ⟨_, (((l1.length : Int) == 1)), sd_, H', ⟨by have := HJ2.out; first | omega | exact Nat.le_refl _⟩, ⟨(bb_ HB)⟩⟩
      ·
       rw [if_neg c10] at H
       have c10b0 := beq_eq_false_iff_ne.mpr c10
       have c10b1 := bne_iff_ne.mpr c10
       (first | rw [c10b0] | (simp only [qZ, jAd]; rw [c10b0]) | skip)
       have H' := jA.mk H
       clear H
       go_wp2
       go_meet
       case rel => exact ⟨_, (false), sd_, H', ⟨by have := HJ2.out; first | omega | exact Nat.le_refl _⟩, ⟨(bb_ HB)⟩⟩
     case rest =>
      clear HC9
      try clear c1
      try clear p2
      try clear c5
      try clear c7
      try clear c8
      try clear c8b0
      try clear c8b1
      try clear c8b2
      try clear c10
      try clear c10b0
      try clear c10b1
      try clear p2
      obtain ⟨kq, x32_8, rfl, HA, HJ8, HB⟩ := hcut
      cases kq with
      | zero => exact absurd HA.out (by simp [jD.j1])
      | succ kj8 =>
       have H := HA.out
       clear HA
       simp only [jD.j1] at H
       by_cases c11 : x32_8 = true
       ·
        subst c11
        replace H := ip_ H
        by_cases c12 : 0 < (l0.length : Int)
        ·
         rw [if_pos c12] at H
         have c12b0 := decide_eq_true c12
         have c12b1 : decide (0 < l0.length) = true := decide_eq_true (by omega)
         clear c12
         by_cases c13 : 0 < (l1.length : Int)
         ·
          rw [if_pos c13] at H
          have c13b0 := decide_eq_true c13
          have c13b1 : decide (0 < l1.length) = true := decide_eq_true (by omega)
          clear c13
          by_cases c14 : (rd l1 0) = 0
          ·
           rw [if_pos c14] at H
           exact absurd H (by simp)
          ·
           rw [if_neg c14] at H
           have c14b0 := beq_eq_false_iff_ne.mpr c14
           have c14b1 := bne_iff_ne.mpr c14
           obtain ⟨t518, A15, H⟩ := oc_ H
           try dsimp only at H
           obtain ⟨t523, A16, H⟩ := oc_ H
           try dsimp only at H
           simp only [Option.some.injEq, Prod.mk.injEq] at H
           obtain ⟨rfl, rfl, rfl⟩ := H
           try go_wp2
           have n0_ := jA.mk (zY HB.out)
           clear HB
           have HB := n0_
           clear n0_
           have p516 : 0 ≤ (0 : Int) := (by omega)
           have q516 : 0 < (l0.length : Int) := of_decide_eq_true am_
           obtain ⟨ad516, e516, hx516_0⟩ := Kd.vw HR0.out 0 p516 q516
           have hw516_0 := hx516_0
           (try rw [show ((0 : Int)).toNat = 0 from rfl] at hw516_0)
           (try rw [show 0 * 1 = 0 from rfl] at hw516_0)
           (try rw [Addr.add_zero'] at hw516_0)
           cases e516
           have qi516 : (0 < l0.length) = True := eq_true (by omega)
           (try rw [show ((0 : Int)).toNat = 0 from rfl] at hx516_0)
           (try rw [Addr.add_zero'] at hx516_0)
           replace hx516_0 := (HB.out.cell (World.block_lt_of_cell? w _ hx516_0)).trans hx516_0
           replace p516 := eq_true p516
           replace q516 := eq_true q516
           have p517 : 0 ≤ (0 : Int) := (by omega)
           have q517 : 0 < (l1.length : Int) := of_decide_eq_true am_
           obtain ⟨ad517, e517, hx517_0⟩ := Kd.vw HR1.out 0 p517 q517
           have hw517_0 := hx517_0
           (try rw [show ((0 : Int)).toNat = 0 from rfl] at hw517_0)
           (try rw [show 0 * 1 = 0 from rfl] at hw517_0)
           (try rw [Addr.add_zero'] at hw517_0)
           cases e517
           have qi517 : (0 < l1.length) = True := eq_true (by omega)
           (try rw [show ((0 : Int)).toNat = 0 from rfl] at hx517_0)
           (try rw [Addr.add_zero'] at hx517_0)
           replace hx517_0 := (HB.out.cell (World.block_lt_of_cell? w _ hx517_0)).trans hx517_0
           replace p517 := eq_true p517
           replace q517 := eq_true q517
           have p521 : 0 ≤ (0 : Int) := (by omega)
           have q521 : 0 < (l0.length : Int) := of_decide_eq_true am_
           obtain ⟨ad521, e521, hx521_0⟩ := Kd.vw HR0.out 0 p521 q521
           have hw521_0 := hx521_0
           (try rw [show ((0 : Int)).toNat = 0 from rfl] at hw521_0)
           (try rw [show 0 * 1 = 0 from rfl] at hw521_0)
           (try rw [Addr.add_zero'] at hw521_0)
           obtain rfl : ad516 = ad521 := (by injection e521)
           have qi521 : (0 < l0.length) = True := eq_true (by omega)
           (try rw [show ((0 : Int)).toNat = 0 from rfl] at hx521_0)
           (try rw [Addr.add_zero'] at hx521_0)
           replace hx521_0 := (HB.out.cell (World.block_lt_of_cell? w _ hx521_0)).trans hx521_0
           replace p521 := eq_true p521
           replace q521 := eq_true q521
           have p522 : 0 ≤ (0 : Int) := (by omega)
           have q522 : 0 < (l1.length : Int) := of_decide_eq_true am_
           obtain ⟨ad522, e522, hx522_0⟩ := Kd.vw HR1.out 0 p522 q522
           have hw522_0 := hx522_0
           (try rw [show ((0 : Int)).toNat = 0 from rfl] at hw522_0)
           (try rw [show 0 * 1 = 0 from rfl] at hw522_0)
           (try rw [Addr.add_zero'] at hw522_0)
           obtain rfl : ad517 = ad522 := (by injection e522)
           have qi522 : (0 < l1.length) = True := eq_true (by omega)
           (try rw [show ((0 : Int)).toNat = 0 from rfl] at hx522_0)
           (try rw [Addr.add_zero'] at hx522_0)
           replace hx522_0 := (HB.out.cell (World.block_lt_of_cell? w _ hx522_0)).trans hx522_0
           replace p522 := eq_true p522
           replace q522 := eq_true q522
           refine jAU (n := 19) (S := fun w' => w'.cell? ad516 = some (.int .u64 (rd l0 0)) ∧ w'.cell? ad517 = some (.int .u64 (rd l1 0)) ∧ w'.cell? ad516 = some (.int .u64 (rd l0 0)) ∧ w'.cell? ad517 = some (.int .u64 (rd l1 0))) (ds := []) #[false, false, false, false, false, false, false, false, false, false, false, false, false, false, false, false, false, false, false] kr_ rfl rfl ⟨((HB.out.cell (World.block_lt_of_cell? w _ hw516_0)).trans hw516_0), ((HB.out.cell (World.block_lt_of_cell? w _ hw517_0)).trans hw517_0), ((HB.out.cell (World.block_lt_of_cell? w _ hw521_0)).trans hw521_0), ((HB.out.cell (World.block_lt_of_cell? w _ hw522_0)).trans hw522_0)⟩ (fun hHeld => ?_); refine qc jD.tab6 jD.jKj (fun HT_ HW_ => ?_)
           generalize wc.drew = w17 at HB hx516_0 hx517_0 hx521_0 hx522_0 hHeld ⊢
           refine pu_ 0 (some 33) (ba_ 19 1) (jd HT_.out kr_) ?_
           refine pu_ 1 (some 34) (ba_ 19 3) (jd HT_.out kr_) ?_
           refine pu_ 3 (some 36) (ba_ 19 11) (jd HT_.out kr_) ?_
           refine pu_ 4 (some 37) (ba_ 19 27) (jd HT_.out kr_) ?_
           refine pu_ 8 (some 41) (ba_ 19 283) (jd HT_.out kr_) ?_
           refine pu_ 9 (some 42) (ba_ 19 795) (jd HT_.out kr_) ?_
           refine pu_ 11 (some 44) (ba_ 19 2843) (jd HT_.out kr_) ?_
           refine pu_ 12 (some 45) (ba_ 19 6939) (jd HT_.out kr_) ?_
           refine tk4_ 2 (some 35) (ba_ 19 6943) (jv HT_.out HW_.out kr_) hHeld ?_
           refine tk4_ 5 (some 38) (ba_ 19 6975) (jv HT_.out HW_.out kr_) hHeld ?_
           refine pu_ 6 (some 39) (ba_ 19 7039) (jd HT_.out kr_) ?_
           refine tk4_ 10 (some 43) (ba_ 19 8063) (jv HT_.out HW_.out kr_) hHeld ?_
           refine tk4_ 13 (some 46) (ba_ 19 16255) (jv HT_.out HW_.out kr_) hHeld ?_
           refine pu_ 14 (some 47) (ba_ 19 32639) (jd HT_.out kr_) ?_
           refine one_ (i := 7) (N := some 40) (ba_ 19 32767) rfl rfl (vv HT_.out kr_) (by decide) (fun K hK => ?_)
           refine jAQ Try.func21 kr_ rfl #[.int .u64 (IntKind.u64.wrap (Int.tdiv (rd l0 0) (rd l1 0)))] (by rfl) rfl rfl (by (try simp only [List.map_toArray, List.map_cons, List.map_nil]); first | done | rfl | (simp only [List.length_drop, List.length_take]; rfl)) ?_
           with_reducible refine (zN.calls kj8 (IntKind.u64.wrap (Int.tdiv (rd l0 0) (rd l1 0))) t518 _ A15.out).mono ?_
           rintro e w18 ⟨v519, rfl, ho0, hb⟩
           refine ⟨_, rfl, ?_⟩
           have n0_ := jA.mk (Kd.jN ho0 (jC (bb_ HB)))
           have n1_ := bs_ HB hb
           clear HB
           have HO520 := n0_
           have HB := n1_
           clear n0_ n1_
           (try clear hb)
           (try clear hb2)
           (try clear hk)
           (try clear hi)
           (try clear ho0)
           refine hK.out _ _ ⟨((HB.out.cell (World.block_lt_of_cell? w _ hw516_0)).trans hw516_0), ((HB.out.cell (World.block_lt_of_cell? w _ hw517_0)).trans hw517_0), ((HB.out.cell (World.block_lt_of_cell? w _ hw521_0)).trans hw521_0), ((HB.out.cell (World.block_lt_of_cell? w _ hw522_0)).trans hw522_0)⟩ (fun hHeld => ?_)
           clear hK K
           refine ns_ 40 ?_
           refine one_ (i := 15) (N := some 48) (ba_ 19 65535) rfl rfl (vv HT_.out kr_) (by decide) (fun K hK => ?_)
           refine jAQ Try.func21 kr_ rfl #[.int .u64 (Int.tmod (rd l0 0) (rd l1 0))] (by rfl) rfl rfl (by (try simp only [List.map_toArray, List.map_cons, List.map_nil]); first | done | rfl | (simp only [List.length_drop, List.length_take]; rfl)) ?_
           with_reducible refine (zN.calls kj8 (Int.tmod (rd l0 0) (rd l1 0)) t523 _ A16.out).mono ?_
           rintro e w19 ⟨v524, rfl, ho0, hb⟩
           refine ⟨_, rfl, ?_⟩
           have n0_ := re_ HO520 ho0 hb
           have n1_ := jA.mk (Kd.jN (Kd.jL ho0 (Kd.R_lt (rR_ HO520))) (jC (bb_ HB)))
           have n2_ := bs_ HB hb
           clear HO520
           clear HB
           have HO520 := n0_
           have HO525 := n1_
           have HB := n2_
           clear n0_ n1_ n2_
           (try clear hb)
           (try clear hb2)
           (try clear hk)
           (try clear hi)
           (try clear ho0)
           refine hK.out _ _ ⟨((HB.out.cell (World.block_lt_of_cell? w _ hw516_0)).trans hw516_0), ((HB.out.cell (World.block_lt_of_cell? w _ hw517_0)).trans hw517_0), ((HB.out.cell (World.block_lt_of_cell? w _ hw521_0)).trans hw521_0), ((HB.out.cell (World.block_lt_of_cell? w _ hw522_0)).trans hw522_0)⟩ (fun hHeld => ?_)
           clear hK K
           refine ns_ 48 ?_
           refine pu_ 16 (some 4) (ba_ 19 131071) (jd HT_.out kr_) ?_
           refine pu_ 17 (some 5) (ba_ 19 262143) (jd HT_.out kr_) ?_
           refine pu_ 18 (some 6) (ba_ 19 524287) (jd HT_.out kr_) ?_
           refine jAv (jAn HT_.out kr_) ?_
           try go_wp2
           go_ret3
           exact ⟨_, _, ew_, by refine pR_ ?_; exact Kd.jT HO520.out (fun _ hk => hk.2), by refine pR_ ?_; exact Kd.jT HO525.out (fun _ hk => hk.2), (bb_ HB)⟩
         ·
          rw [if_neg c13] at H
          exact absurd H (by simp)
        ·
         rw [if_neg c12] at H
         exact absurd H (by simp)
       ·
        replace c11 := Bool.eq_false_iff.mpr c11
        subst c11
        replace H := in_ H
        obtain ⟨t526, A20, H⟩ := oc_ H
        try dsimp only at H
        obtain ⟨y529, hy529⟩ : ∃ y_ : List Int, y_ = (([] : List Int)) := ⟨_, rfl⟩
        replace H : (jD.l0 kj8 l1 t526 y529 0) = some (r1, r2, r3) := by first | (rw [hy529]; with_reducible exact H) | (have H2_ := (Option.bind_some _ _).symm.trans H; rw [hy529]; with_reducible exact H2_) | (with_reducible exact hs_ H) | with_reducible exact H | (rw [hy529]; exact H) | exact H
        have Ny529 := jA.mk hy529
        clear hy529
        have H' := jA.mk H
        clear H
        go_wp2_with (first | ((with_reducible refine jH (f := 68) rfl ?_); refine gl_ (some 50) Try.func68 #[.slice A0 l0.length c0] ?_; (with_reducible refine (jG.calls kj8 _ _ l0 t526 _ ?side1 ?side2 A20.out).mono ?_); (case side1 => exact cb_ HR0 HB); (case side2 => exact HC0.out); rintro e w21 ⟨v527, rfl, ho0, hb⟩; refine ⟨_, rfl, ?_⟩; have HO528 := jA.mk (Kd.jN ho0 (jC (bb_ HB))); replace HB := bs_ HB hb) | ((with_reducible refine jX (N := 51) rfl ?_); (try (refine jr (by rfl) ?_; dsimp only)); refine Kd.jAC (Kd.int .u64) _ 22 ?hg (N := 51) ?hd (xs := ([] : List Int)) (inner := []) (ok := fun _ => True) (okp := fun _ => True) ?hr ?hp (fun _ hk => hk) trivial (Below.refl _ _) (Nat.le_refl _) (by simp) ?_; (case hd => rfl); (case hg => rfl); (case hr => exact gs_); (case hp => exact (Reps.none _ _)); intro v530 w22 ho23 hb hg_ hnew_; clear hg_ hnew_; (first | rw [← Ny529.out] at ho23 | (simp only [Int.reduceToNat] at ho23; rw [← Ny529.out] at ho23)); have HO531 := jA.mk (Kd.jN (Kd.jL ho23 (Kd.R_lt (rR_ HO528))) (jC (bb_ HB))); replace HO528 := re_ HO528 ho23 hb; replace HB := bs_ HB hb; clear hb ho23))
        go_loopg [8, 9] kj8 (fun kq v8 v9 w' => ∃ (x8_3 : List Int) (x9_3 : Int), v9 = .int .i64 x9_3 ∧ jA (jD.l0 kq l1 t526 x8_3 x9_3 = some (r1, r2, r3)) ∧ jA (kq ≤ kj8) ∧ jA (Kd.R (Kd.int .u64) 22 w' w.heap.size (fun k_ => some k_ ≠ (v8 : Value).ownBlock) v527 t526) ∧ jA (Kd.R (Kd.int .u64) 22 w' w.heap.size (fun k_ => some k_ ≠ (v527 : Value).ownBlock) v8 x8_3) ∧ jA (Below w.heap.size w w'))
        case atStart => exact ⟨(y529), (0), sd_, H', ⟨Nat.le_refl _⟩, ⟨by (with_reducible repeat (first | apply Kd.zM | apply Kd.zT | apply Kd.zZ)); exact Kd.jT HO528.out (fun _ hk => hk.2)⟩, ⟨by (with_reducible repeat (first | apply Kd.zM | apply Kd.zT | apply Kd.zZ)); exact Kd.jT HO531.out (fun _ hk => hk.2)⟩, ⟨(bb_ HB)⟩⟩
        case round =>
         clear H'
         try clear c1
         try clear c2
         try clear p2
         try clear c5
         try clear p5
         try clear q5
         try clear hx5
         try clear qi5
         try clear c6
         try clear c7
         try clear c8
         try clear c8b0
         try clear c8b1
         try clear c8b2
         try clear c10
         try clear c10b0
         try clear c10b1
         try clear c11
         try clear c12
         try clear c12b0
         try clear c12b1
         try clear c13
         try clear c13b0
         try clear c13b1
         try clear c14
         try clear c14b0
         try clear c14b1
         try clear c21
         try clear hx516_0
         try clear hx517_0
         try clear hx521_0
         try clear hx522_0
         try clear p2
         try clear p516
         try clear p517
         try clear p521
         try clear p522
         try clear q516
         try clear q517
         try clear q521
         try clear q522
         obtain ⟨x8_3, x9_3, rfl, HA, HK3, HO_7, HO_8, HB⟩ := hrel
         cases gk with
         | zero => exact absurd HA.out (by simp [jD.l0])
         | succ k3 =>
          have H := HA.out
          clear HA
          simp only [jD.l0] at H
          by_cases c24 : x9_3 < (t526.length : Int)
          ·
           rw [if_pos c24] at H
           have c24b0 := decide_eq_true c24
           clear c24
           by_cases c25 : x8_3.length < 17592186044416
           ·
            rw [if_pos c25] at H
            have LMc25 := jA.mk c25
            clear c25
            obtain ⟨y532, hy532⟩ : ∃ y_ : List Int, y_ = (x8_3 ++ [0]) := ⟨_, rfl⟩
            replace H : (jD.l0 k3 l1 t526 y532 (wrap64 (x9_3 + 1))) = some (r1, r2, r3) := by first | (rw [hy532]; with_reducible exact H) | (have H2_ := (Option.bind_some _ _).symm.trans H; rw [hy532]; with_reducible exact H2_) | (with_reducible exact hs_ H) | with_reducible exact H | (rw [hy532]; exact H) | exact H
            have Ny532 := jA.mk hy532
            clear hy532
            have H' := jA.mk H
            clear H
            obtain ⟨Ao26, co26, eo26⟩ := Kd.jV HO_7.out
            subst eo26
            go_wp2_with (first | ((with_reducible refine vW (b := .append) (xs := #[.tmp 58, .tmp 59]) rfl ?_); (try (refine jr (by rfl) ?_; dsimp only)); at_builtin; refine Kd.qb (Kd.int .u64) (w0 := w) w.heap.size rfl (.tmp 58) (.tmp 59) 35 22 (.int .u64 0) 8 rfl Try.underlying35 qI rfl (by decide) (by omega) u8 x8_3 0 [.int .u64 0] (fun k_ => some k_ ≠ (.slice Ao26 t526.length co26 : Value).ownBlock) (fun _ => False) rfl rfl ?aP (fun _ hk => hk.elim) ?aF ?aO ?aB ?aS ?aL ?_; (case aP => exact rfl); (case aB => exact (bb_ HB)); (case aF => exact (fun k_ hk => Kd.fresh' (Kd.R_lt (rR_ HO_7)) k_ hk)); (case aO => exact (rR_ HO_8)); (case aS => exact (jC (bb_ HB))); (case aL => have := LMc25.out; omega); intro v533 w27 ho hb hg hat; rw [← Ny532.out] at ho; replace HO_7 := jA.mk (Kd.zW (ok := (fun _ => True)) (by refine pR_ ?_; exact Kd.jT HO_7.out (fun _ hk => ⟨trivial, hk⟩)) hg hat); replace HB := jA.mk (hb); have HO534 := jA.mk (ho); clear HO_8 ho hb hg hat))
            go_roundg k3
            case measure => have := HJ2.out; have := HJ8.out; have := HK3.out; omega
            case rel => exact ⟨(y532), (wrap64 (x9_3 + 1)), sd_, H', ⟨by have := HJ2.out; have := HJ8.out; have := HK3.out; omega⟩, ⟨by (with_reducible repeat (first | apply Kd.zM | apply Kd.zT | apply Kd.zZ)); exact Kd.jT HO_7.out (fun _ hk => hk.2)⟩, ⟨(rR_ HO534)⟩, ⟨(bb_ HB)⟩⟩
           ·
            rw [if_neg c25] at H
            exact absurd H (by simp)
          ·
           rw [if_neg c24] at H
           have c24b0 := decide_eq_false c24
           clear c24
           obtain ⟨y535, hy535⟩ : ∃ y_ : List Int, y_ = (([] : List Int)) := ⟨_, rfl⟩
           replace H : (jD.l1 k3 l1 t526 x8_3 y535 (wrap64 ((t526.length : Int) - 1))) = some (r1, r2, r3) := by first | (rw [hy535]; with_reducible exact H) | (have H2_ := (Option.bind_some _ _).symm.trans H; rw [hy535]; with_reducible exact H2_) | (with_reducible exact hs_ H) | with_reducible exact H | (rw [hy535]; exact H) | exact H
           have Ny535 := jA.mk hy535
           clear hy535
           have H' := jA.mk H
           clear H
           obtain ⟨Ao28, co28, eo28⟩ := Kd.jV HO_7.out
           subst eo28
           go_wp2_with (first | ((with_reducible refine jX (N := 61) rfl ?_); (try (refine jr (by rfl) ?_; dsimp only)); refine Kd.jAC (Kd.int .u64) _ 22 ?hg (N := 61) ?hd (xs := ([] : List Int)) (inner := []) (ok := fun _ => True) (okp := fun _ => True) ?hr ?hp (fun _ hk => hk) trivial (Below.refl _ _) (Nat.le_refl _) (by simp) ?_; (case hd => rfl); (case hg => rfl); (case hr => exact gs_); (case hp => exact (Reps.none _ _)); intro v536 w29 ho30 hb hg_ hnew_; clear hg_ hnew_; (first | rw [← Ny535.out] at ho30 | (simp only [Int.reduceToNat] at ho30; rw [← Ny535.out] at ho30)); have HO537 := jA.mk (Kd.jN (Kd.jL (Kd.jL ho30 (Kd.R_lt (rR_ HO_7))) (Kd.R_lt (rR_ HO_8))) (jC (bb_ HB))); replace HO_7 := re_ HO_7 ho30 hb; replace HO_8 := re_ HO_8 ho30 hb; replace HB := bs_ HB hb; clear hb ho30))
           go_loopg [10, 11] k3 (fun kq v10 v11 w' => ∃ (x8_4 : List Int) (x10_4 : List Int) (x11_4 : Int), v11 = .int .i64 x11_4 ∧ jA (jD.l1 kq l1 t526 x8_4 x10_4 x11_4 = some (r1, r2, r3)) ∧ jA (kq ≤ k3) ∧ jA (Kd.R (Kd.int .u64) 22 w' w.heap.size (fun k_ => some k_ ≠ (u8 : Value).ownBlock ∧ some k_ ≠ (v10 : Value).ownBlock) (.slice Ao28 t526.length co28) t526) ∧ jA (Kd.R (Kd.int .u64) 22 w' w.heap.size (fun k_ => some k_ ≠ ((.slice Ao28 t526.length co28) : Value).ownBlock ∧ some k_ ≠ (v10 : Value).ownBlock) u8 x8_4) ∧ jA (Kd.R (Kd.int .u64) 22 w' w.heap.size (fun k_ => some k_ ≠ ((.slice Ao28 t526.length co28) : Value).ownBlock ∧ some k_ ≠ (u8 : Value).ownBlock) v10 x10_4) ∧ jA (Below w.heap.size w w'))
           case atStart => exact ⟨(x8_3), (y535), (wrap64 ((t526.length : Int) - 1)), sd_, H', ⟨Nat.le_refl _⟩, ⟨(rR_ HO_7)⟩, ⟨(rR_ HO_8)⟩, ⟨by (with_reducible repeat (first | apply Kd.zM | apply Kd.zT | apply Kd.zZ)); exact Kd.jT HO537.out (fun _ hk => ⟨hk.1.2, hk.2⟩)⟩, ⟨(bb_ HB)⟩⟩
           case round =>
            clear H'
            try clear c1
            try clear c2
            try clear p2
            try clear c5
            try clear p5
            try clear q5
            try clear hx5
            try clear qi5
            try clear c6
            try clear p6
            try clear c7
            try clear c8
            try clear c8b0
            try clear c8b1
            try clear c8b2
            try clear c10
            try clear c10b0
            try clear c10b1
            try clear c11
            try clear c12
            try clear c12b0
            try clear c12b1
            try clear c13
            try clear c13b0
            try clear c13b1
            try clear c14
            try clear c14b0
            try clear c14b1
            try clear c21
            try clear c24
            try clear c24b0
            try clear c25
            try clear hx516_0
            try clear hx517_0
            try clear hx521_0
            try clear hx522_0
            try clear p2
            try clear p5
            try clear p516
            try clear p517
            try clear p521
            try clear p522
            try clear q5
            try clear q516
            try clear q517
            try clear q521
            try clear q522
            obtain ⟨x8_4, x10_4, x11_4, rfl, HA, HK4, HO_7, HO_8, HO_10, HB⟩ := hrel
            cases gk with
            | zero => exact absurd HA.out (by simp [jD.l1])
            | succ k4 =>
             have H := HA.out
             clear HA
             simp only [jD.l1] at H
             by_cases c31 : x11_4 ≥ 0
             ·
              rw [if_pos c31] at H
              have c31b0 := decide_eq_true c31
              clear c31
              obtain ⟨y541, hy541⟩ : ∃ y_ : List Int, y_ = (([4294967296] : List Int)) := ⟨_, rfl⟩
              replace H : ((jF.f k4 x10_4 y541).bind fun t544 => (if 0 ≤ x11_4 then (if x11_4 < (t526.length : Int) then ((jO.f k4 t544 (([rd t526 x11_4] : List Int))).bind fun t551 => ((jR.f k4 t551 l1).bind fun t554 => (if t554 ≥ 0 then ((jY.f k4 t551 l1).bind fun t555 => (if x11_4 < (x8_4.length : Int) then ((some (x8_4.set (x11_4 : Int).toNat t555 : List Int)).bind fun y556 => ((jF.f k4 l1 (([rd y556 x11_4] : List Int))).bind fun t561 => ((jc.f k4 t551 t561).bind fun bt564 => (jD.l1 k4 l1 t526 y556 bt564.1 (wrap64 (x11_4 - 1)))))) else (none))) else (jD.l1 k4 l1 t526 x8_4 t551 (wrap64 (x11_4 - 1)))))) else (none)) else (none))) = some (r1, r2, r3) := by first | (rw [hy541]; with_reducible exact H) | (have H2_ := (Option.bind_some _ _).symm.trans H; rw [hy541]; with_reducible exact H2_) | (with_reducible exact hs_ H) | with_reducible exact H | (rw [hy541]; exact H) | exact H
              have Ny541 := jA.mk hy541
              clear hy541
              obtain ⟨t544, A32, H⟩ := oc_ H
              try dsimp only at H
              by_cases c33 : 0 ≤ x11_4
              ·
               rw [if_pos c33] at H
               have c33b0 := decide_eq_true c33
               clear c33
               by_cases c34 : x11_4 < (t526.length : Int)
               ·
                rw [if_pos c34] at H
                have c34b0 := decide_eq_true c34
                clear c34
                obtain ⟨y548, hy548⟩ : ∃ y_ : List Int, y_ = (([rd t526 x11_4] : List Int)) := ⟨_, rfl⟩
                replace H : ((jO.f k4 t544 y548).bind fun t551 => ((jR.f k4 t551 l1).bind fun t554 => (if t554 ≥ 0 then ((jY.f k4 t551 l1).bind fun t555 => (if x11_4 < (x8_4.length : Int) then ((some (x8_4.set (x11_4 : Int).toNat t555 : List Int)).bind fun y556 => ((jF.f k4 l1 (([rd y556 x11_4] : List Int))).bind fun t561 => ((jc.f k4 t551 t561).bind fun bt564 => (jD.l1 k4 l1 t526 y556 bt564.1 (wrap64 (x11_4 - 1)))))) else (none))) else (jD.l1 k4 l1 t526 x8_4 t551 (wrap64 (x11_4 - 1)))))) = some (r1, r2, r3) := by first | (rw [hy548]; with_reducible exact H) | (have H2_ := (Option.bind_some _ _).symm.trans H; rw [hy548]; with_reducible exact H2_) | (with_reducible exact hs_ H) | with_reducible exact H | (rw [hy548]; exact H) | exact H
                have Ny548 := jA.mk hy548
                clear hy548
                obtain ⟨t551, A35, H⟩ := oc_ H
                try dsimp only at H
                obtain ⟨t554, A36, H⟩ := oc_ H
                try dsimp only at H
                by_cases c37 : t554 ≥ 0
                ·
                 rw [if_pos c37] at H
                 have c37b0 := decide_eq_true c37
                 clear c37
                 obtain ⟨t555, A38, H⟩ := oc_ H
                 try dsimp only at H
                 by_cases c39 : x11_4 < (x8_4.length : Int)
                 ·
                  rw [if_pos c39] at H
                  have c39b0 := decide_eq_true c39
                  clear c39
                  obtain ⟨y556, hy556⟩ : ∃ y_ : List Int, y_ = (x8_4.set (x11_4 : Int).toNat t555) := ⟨_, rfl⟩
                  replace H : ((jF.f k4 l1 (([rd y556 x11_4] : List Int))).bind fun t561 => ((jc.f k4 t551 t561).bind fun bt564 => (jD.l1 k4 l1 t526 y556 bt564.1 (wrap64 (x11_4 - 1))))) = some (r1, r2, r3) := by first | (rw [hy556]; with_reducible exact H) | (have H2_ := (Option.bind_some _ _).symm.trans H; rw [hy556]; with_reducible exact H2_) | (with_reducible exact hs_ H) | with_reducible exact H | (rw [hy556]; exact H) | exact H
                  have Ny556 := jA.mk hy556
                  clear hy556
                  obtain ⟨y558, hy558⟩ : ∃ y_ : List Int, y_ = (([rd y556 x11_4] : List Int)) := ⟨_, rfl⟩
                  replace H : ((jF.f k4 l1 y558).bind fun t561 => ((jc.f k4 t551 t561).bind fun bt564 => (jD.l1 k4 l1 t526 y556 bt564.1 (wrap64 (x11_4 - 1))))) = some (r1, r2, r3) := by first | (rw [hy558]; with_reducible exact H) | (have H2_ := (Option.bind_some _ _).symm.trans H; rw [hy558]; with_reducible exact H2_) | (with_reducible exact hs_ H) | with_reducible exact H | (rw [hy558]; exact H) | exact H
                  have Ny558 := jA.mk hy558
                  clear hy558
                  obtain ⟨t561, A41, H⟩ := oc_ H
                  try dsimp only at H
                  replace H := ob_ H
                  obtain ⟨⟨t564, t565⟩, A420, H⟩ := H
                  try dsimp only at H
                  have A42 := jA.mk A420
                  clear A420
                  have H' := jA.mk H
                  clear H
                  obtain ⟨Ao43, co43, eo43⟩ := Kd.jV HO_10.out
                  subst eo43
                  try go_wp2
                  have n0_ := jA.mk (Kd.zZ HO_7.out)
                  have n1_ := jA.mk (Kd.zZ HO_8.out)
                  have n2_ := jA.mk (Kd.zZ HO_10.out)
                  have n3_ := jA.mk (zY HB.out)
                  clear HO_7
                  clear HO_8
                  clear HO_10
                  clear HB
                  have HO_7 := n0_
                  have HO_8 := n1_
                  have HO_10 := n2_
                  have HB := n3_
                  clear n0_ n1_ n2_ n3_
                  have p547 : 0 ≤ (x11_4 : Int) := of_decide_eq_true am_
                  have q547 : x11_4 < (t526.length : Int) := of_decide_eq_true am_
                  obtain ⟨ad547, e547, hx547_0⟩ := Kd.vw (Kd.jE HO_7.out).2.2 x11_4 p547 q547
                  cases e547
                  replace p547 := eq_true p547
                  replace q547 := eq_true q547
                  refine jAU (n := 10) (S := fun w' => w'.cell? (ad547.add (x11_4).toNat) = some (.int .u64 (rd t526 x11_4))) (ds := []) #[false, false, false, false, false, false, false, false, false, false] kr_ rfl rfl (hx547_0) (fun hHeld => ?_); refine qc jD.jJM jD.jHz (fun HT_ HW_ => ?_)
                  generalize wr.drew = w44 at HO_7 HO_8 HO_10 HB hx547_0 hHeld ⊢
                  refine pu_ 0 (some 69) (ba_ 10 1) (jd HT_.out kr_) ?_
                  refine pu_ 3 (some 72) (ba_ 10 9) (jd HT_.out kr_) ?_
                  refine pu_ 4 (some 73) (ba_ 10 25) (jd HT_.out kr_) ?_
                  refine pu_ 5 (some 74) (ba_ 10 57) (jd HT_.out kr_) ?_
                  refine tk1_ 6 (some 75) (ba_ 10 121) (jv HT_.out HW_.out kr_) hHeld ?_
                  refine jJi (σ := Value × Value × Value) 2 #[true, true, true, true, true, true, true, true, false, false] (fun s_ => [(70, s_.1), (71, s_.2.1), (76, s_.2.2)]) (fun s_ w' => (w'.cell? (ad547.add (x11_4).toNat) = some (.int .u64 (rd t526 x11_4))) ∧ (Kd.R (Kd.int .u64) 22 w' w.heap.size (fun k_ => some k_ ≠ (s_.2.1 : Value).ownBlock ∧ some k_ ≠ (s_.2.2 : Value).ownBlock ∧ some k_ ≠ (.slice Ao43 x10_4.length co43 : Value).ownBlock ∧ some k_ ≠ (.slice (some ad547) t526.length co28 : Value).ownBlock ∧ some k_ ≠ (u8 : Value).ownBlock) s_.1 y541) ∧ (Kd.R (Kd.int .u64) 22 w' w.heap.size (fun k_ => some k_ ≠ (s_.1 : Value).ownBlock ∧ some k_ ≠ (s_.2.2 : Value).ownBlock ∧ some k_ ≠ (.slice Ao43 x10_4.length co43 : Value).ownBlock ∧ some k_ ≠ (.slice (some ad547) t526.length co28 : Value).ownBlock ∧ some k_ ≠ (u8 : Value).ownBlock) s_.2.1 t544) ∧ (Kd.R (Kd.int .u64) 22 w' w.heap.size (fun k_ => some k_ ≠ (s_.1 : Value).ownBlock ∧ some k_ ≠ (s_.2.1 : Value).ownBlock ∧ some k_ ≠ (.slice Ao43 x10_4.length co43 : Value).ownBlock ∧ some k_ ≠ (.slice (some ad547) t526.length co28 : Value).ownBlock ∧ some k_ ≠ (u8 : Value).ownBlock) s_.2.2 y548) ∧ (Kd.R (Kd.int .u64) 22 w' w.heap.size (fun k_ => some k_ ≠ (s_.1 : Value).ownBlock ∧ some k_ ≠ (s_.2.1 : Value).ownBlock ∧ some k_ ≠ (s_.2.2 : Value).ownBlock ∧ some k_ ≠ (.slice (some ad547) t526.length co28 : Value).ownBlock ∧ some k_ ≠ (u8 : Value).ownBlock) (.slice Ao43 x10_4.length co43) x10_4) ∧ (Kd.R (Kd.int .u64) 22 w' w.heap.size (fun k_ => some k_ ≠ (s_.1 : Value).ownBlock ∧ some k_ ≠ (s_.2.1 : Value).ownBlock ∧ some k_ ≠ (s_.2.2 : Value).ownBlock ∧ some k_ ≠ (.slice Ao43 x10_4.length co43 : Value).ownBlock ∧ some k_ ≠ (u8 : Value).ownBlock) (.slice (some ad547) t526.length co28) t526) ∧ (Kd.R (Kd.int .u64) 22 w' w.heap.size (fun k_ => some k_ ≠ (s_.1 : Value).ownBlock ∧ some k_ ≠ (s_.2.1 : Value).ownBlock ∧ some k_ ≠ (s_.2.2 : Value).ownBlock ∧ some k_ ≠ (.slice Ao43 x10_4.length co43 : Value).ownBlock ∧ some k_ ≠ (.slice (some ad547) t526.length co28 : Value).ownBlock) u8 x8_4) ∧ (Below w.heap.size w w')) ?_ ?_
                  rotate_left
                  ·
                   intro hCont
                   refine two_ (i := 1) (j := 7) (Ni := some 70) (Nj := some 76) (ba_ 10 123) (ba_ 10 249) rfl rfl rfl rfl (jEh HT_.out kr_) (by decide) (by decide) (fun K hK => ?_) (fun K hK => ?_)
                   ·
                    skip
                    refine Kd.qj (Kd.int .u64) _ 22 ?hg (N := 70) ?hd (xs := ([4294967296] : List Int)) (inner := [.int .u64 4294967296]) (ok := fun _ => True) (okp := fun _ => True) ?hr ?hp (fun _ hk => hk) trivial (Below.refl _ _) (Nat.le_refl _) (by simp) ?_; (case hd => rfl); (case hg => rfl); (case hr => exact gs_); (case hp => exact (Reps.one (show Kd.M (Kd.int .u64) _ _ _ 4294967296 [.int .u64 4294967296] from rfl) (Reps.none _ _)))
                    intro v542 w45 ho46 hb hg_ hnew_
                    have HS0_ := (hb.cell (World.block_lt_of_cell? _ _ (hHeld))).trans (hHeld)
                    clear hg_ hnew_
                    (first | rw [← Ny541.out] at ho46 | (simp only [Int.reduceToNat] at ho46; rw [← Ny541.out] at ho46))
                    have n0_ := re_ HO_7 ho46 hb
                    have n1_ := re_ HO_8 ho46 hb
                    have n2_ := re_ HO_10 ho46 hb
                    have n3_ := jA.mk (Kd.jN (Kd.jL (Kd.jL (Kd.jL ho46 (Kd.R_lt (rR_ HO_7))) (Kd.R_lt (rR_ HO_8))) (Kd.R_lt (rR_ HO_10))) (jC (bb_ HB)))
                    have n4_ := bs_ HB hb
                    clear HO_7
                    clear HO_8
                    clear HO_10
                    clear HB
                    have HO_7 := n0_
                    have HO_8 := n1_
                    have HO_10 := n2_
                    have HO543 := n3_
                    have HB := n4_
                    clear n0_ n1_ n2_ n3_ n4_
                    clear hb ho46
                    obtain ⟨Ao47, co47, eo47⟩ := Kd.jV HO543.out
                    (first | subst eo47 | (injection eo47 with f1_ f2_ f3_; have f4_ := f1_.symm; have f5_ := f3_.symm; clear f1_ f2_ f3_; subst f4_; subst f5_))
                    refine hK.out _ _ (HS0_) (fun hHeld => ?_)
                    clear hK K
                    refine ns_ 70 ?_
                    refine two_ (i := 2) (j := 7) (Ni := some 71) (Nj := some 76) (ba_ 10 127) (ba_ 10 251) rfl rfl rfl rfl (jEh HT_.out kr_) (by decide) (by decide) (fun K hK => ?_) (fun K hK => ?_)
                    ·
                     skip
                     refine jAQ Try.func23 kr_ rfl #[.slice Ao43 x10_4.length co43, .slice Ao47 y541.length co47] (by rfl) rfl rfl (by (try simp only [List.map_toArray, List.map_cons, List.map_nil]); first | done | rfl | (simp only [List.length_drop, List.length_take]; rfl)) ?_
                     with_reducible refine (jF.calls k4 _ _ x10_4 _ _ y541 t544 _ ?side1 ?side2 ?side3 ?side4 A32.out).mono ?_
                     (case side1 => exact cc_ (Kd.jE HO_10.out).2.2)
                     (case side2 => exact (Kd.jE HO_10.out).2.1)
                     (case side3 => exact cc_ (Kd.jE HO543.out).2.2)
                     (case side4 => exact (Kd.jE HO543.out).2.1)
                     rintro e w48 ⟨v545, rfl, ho0, hb⟩
                     have HS0_ := (hb.cell (World.block_lt_of_cell? _ _ (hHeld))).trans (hHeld)
                     refine ⟨_, rfl, ?_⟩
                     have n0_ := re_ HO_7 ho0 hb
                     have n1_ := re_ HO_8 ho0 hb
                     have n2_ := re_ HO_10 ho0 hb
                     have n3_ := re_ HO543 ho0 hb
                     have n4_ := jA.mk (Kd.jN (Kd.jL (Kd.jL (Kd.jL (Kd.jL ho0 (Kd.R_lt (rR_ HO_7))) (Kd.R_lt (rR_ HO_8))) (Kd.R_lt (rR_ HO_10))) (Kd.R_lt (rR_ HO543))) (jC (bb_ HB)))
                     have n5_ := bs_ HB hb
                     clear HO_7
                     clear HO_8
                     clear HO_10
                     clear HO543
                     clear HB
                     have HO_7 := n0_
                     have HO_8 := n1_
                     have HO_10 := n2_
                     have HO543 := n3_
                     have HO546 := n4_
                     have HB := n5_
                     clear n0_ n1_ n2_ n3_ n4_ n5_
                     (try clear hb)
                     (try clear hb2)
                     (try clear hk)
                     (try clear hi)
                     (try clear ho0)
                     refine hK.out _ _ (HS0_) (fun hHeld => ?_)
                     clear hK K
                     refine ns_ 71 ?_
                     refine one_ (i := 7) (N := some 76) (ba_ 10 255) rfl rfl (vv HT_.out kr_) (by decide) (fun K hK => ?_)
                     refine Kd.qj (Kd.int .u64) _ 22 ?hg (N := 76) ?hd (xs := ([rd t526 x11_4] : List Int)) (inner := [.int .u64 (rd t526 x11_4)]) (ok := fun _ => True) (okp := fun _ => True) ?hr ?hp (fun _ hk => hk) trivial (Below.refl _ _) (Nat.le_refl _) (by simp) ?_; (case hd => rfl); (case hg => rfl); (case hr => exact gs_); (case hp => exact (Reps.one (show Kd.M (Kd.int .u64) _ _ _ (rd t526 x11_4) [.int .u64 (rd t526 x11_4)] from rfl) (Reps.none _ _)))
                     intro v549 w49 ho50 hb hg_ hnew_
                     have HS0_ := (hb.cell (World.block_lt_of_cell? _ _ (hHeld))).trans (hHeld)
                     clear hg_ hnew_
                     (first | rw [← Ny548.out] at ho50 | (simp only [Int.reduceToNat] at ho50; rw [← Ny548.out] at ho50))
                     have n0_ := re_ HO_7 ho50 hb
                     have n1_ := re_ HO_8 ho50 hb
                     have n2_ := re_ HO_10 ho50 hb
                     have n3_ := re_ HO543 ho50 hb
                     have n4_ := re_ HO546 ho50 hb
                     have n5_ := jA.mk (Kd.jN (Kd.jL (Kd.jL (Kd.jL (Kd.jL (Kd.jL ho50 (Kd.R_lt (rR_ HO_7))) (Kd.R_lt (rR_ HO_8))) (Kd.R_lt (rR_ HO_10))) (Kd.R_lt (rR_ HO543))) (Kd.R_lt (rR_ HO546))) (jC (bb_ HB)))
                     have n6_ := bs_ HB hb
                     clear HO_7
                     clear HO_8
                     clear HO_10
                     clear HO543
                     clear HO546
                     clear HB
                     have HO_7 := n0_
                     have HO_8 := n1_
                     have HO_10 := n2_
                     have HO543 := n3_
                     have HO546 := n4_
                     have HO550 := n5_
                     have HB := n6_
                     clear n0_ n1_ n2_ n3_ n4_ n5_ n6_
                     clear hb ho50
                     refine hK.out _ _ (HS0_) (fun hHeld => ?_)
                     clear hK K
                     refine ns_ 76 ?_
                     exact jCp (by simp only [jBM, Act.put, ss_]) (hCont (.slice Ao47 y541.length co47, v545, v549) _ ⟨hHeld, (by refine pR_ ?_; exact Kd.jT HO543.out (fun _ hk => ⟨hk.1.2, ⟨hk.2, ⟨hk.1.1.2, ⟨hk.1.1.1.1.2, hk.1.1.1.2⟩⟩⟩⟩)), (by refine pR_ ?_; exact Kd.jT HO546.out (fun _ hk => ⟨hk.1.2, ⟨hk.2, ⟨hk.1.1.2, ⟨hk.1.1.1.1.2, hk.1.1.1.2⟩⟩⟩⟩)), (by refine pR_ ?_; exact Kd.jT HO550.out (fun _ hk => ⟨hk.1.2, ⟨hk.2, ⟨hk.1.1.2, ⟨hk.1.1.1.1.2, hk.1.1.1.2⟩⟩⟩⟩)), (by refine pR_ ?_; exact Kd.jT HO_10.out (fun _ hk => ⟨hk.1.1.2, ⟨hk.1.2, ⟨hk.2, ⟨hk.1.1.1.1, hk.1.1.1.2⟩⟩⟩⟩)), (by refine pR_ ?_; exact Kd.jT HO_7.out (fun _ hk => ⟨hk.1.1.2, ⟨hk.1.2, ⟨hk.2, ⟨hk.1.1.1.2, hk.1.1.1.1⟩⟩⟩⟩)), (by refine pR_ ?_; exact Kd.jT HO_8.out (fun _ hk => ⟨hk.1.1.2, ⟨hk.1.2, ⟨hk.2, ⟨hk.1.1.1.2, hk.1.1.1.1⟩⟩⟩⟩)), (bb_ HB)⟩)
                    ·
                     skip
                     refine Kd.qj (Kd.int .u64) _ 22 ?hg (N := 76) ?hd (xs := ([rd t526 x11_4] : List Int)) (inner := [.int .u64 (rd t526 x11_4)]) (ok := fun _ => True) (okp := fun _ => True) ?hr ?hp (fun _ hk => hk) trivial (Below.refl _ _) (Nat.le_refl _) (by simp) ?_; (case hd => rfl); (case hg => rfl); (case hr => exact gs_); (case hp => exact (Reps.one (show Kd.M (Kd.int .u64) _ _ _ (rd t526 x11_4) [.int .u64 (rd t526 x11_4)] from rfl) (Reps.none _ _)))
                     intro v549 w47 ho48 hb hg_ hnew_
                     have HS0_ := (hb.cell (World.block_lt_of_cell? _ _ (hHeld))).trans (hHeld)
                     clear hg_ hnew_
                     (first | rw [← Ny548.out] at ho48 | (simp only [Int.reduceToNat] at ho48; rw [← Ny548.out] at ho48))
                     have n0_ := re_ HO_7 ho48 hb
                     have n1_ := re_ HO_8 ho48 hb
                     have n2_ := re_ HO_10 ho48 hb
                     have n3_ := re_ HO543 ho48 hb
                     have n4_ := jA.mk (Kd.jN (Kd.jL (Kd.jL (Kd.jL (Kd.jL ho48 (Kd.R_lt (rR_ HO_7))) (Kd.R_lt (rR_ HO_8))) (Kd.R_lt (rR_ HO_10))) (Kd.R_lt (rR_ HO543))) (jC (bb_ HB)))
                     have n5_ := bs_ HB hb
                     clear HO_7
                     clear HO_8
                     clear HO_10
                     clear HO543
                     clear HB
                     have HO_7 := n0_
                     have HO_8 := n1_
                     have HO_10 := n2_
                     have HO543 := n3_
                     have HO550 := n4_
                     have HB := n5_
                     clear n0_ n1_ n2_ n3_ n4_ n5_
                     clear hb ho48
                     obtain ⟨Ao49, co49, eo49⟩ := Kd.jV HO543.out
                     (first | subst eo49 | (injection eo49 with f1_ f2_ f3_; have f4_ := f1_.symm; have f5_ := f3_.symm; clear f1_ f2_ f3_; subst f4_; subst f5_))
                     refine hK.out _ _ (HS0_) (fun hHeld => ?_)
                     clear hK K
                     refine ns_ 76 ?_
                     refine one_ (i := 2) (N := some 71) (ba_ 10 255) rfl rfl (vv HT_.out kr_) (by decide) (fun K hK => ?_)
                     refine jAQ Try.func23 kr_ rfl #[.slice Ao43 x10_4.length co43, .slice Ao49 y541.length co49] (by rfl) rfl rfl (by (try simp only [List.map_toArray, List.map_cons, List.map_nil]); first | done | rfl | (simp only [List.length_drop, List.length_take]; rfl)) ?_
                     with_reducible refine (jF.calls k4 _ _ x10_4 _ _ y541 t544 _ ?side1 ?side2 ?side3 ?side4 A32.out).mono ?_
                     (case side1 => exact cc_ (Kd.jE HO_10.out).2.2)
                     (case side2 => exact (Kd.jE HO_10.out).2.1)
                     (case side3 => exact cc_ (Kd.jE HO543.out).2.2)
                     (case side4 => exact (Kd.jE HO543.out).2.1)
                     rintro e w50 ⟨v545, rfl, ho0, hb⟩
                     have HS0_ := (hb.cell (World.block_lt_of_cell? _ _ (hHeld))).trans (hHeld)
                     refine ⟨_, rfl, ?_⟩
                     have n0_ := re_ HO_7 ho0 hb
                     have n1_ := re_ HO_8 ho0 hb
                     have n2_ := re_ HO_10 ho0 hb
                     have n3_ := re_ HO543 ho0 hb
                     have n4_ := re_ HO550 ho0 hb
                     have n5_ := jA.mk (Kd.jN (Kd.jL (Kd.jL (Kd.jL (Kd.jL (Kd.jL ho0 (Kd.R_lt (rR_ HO_7))) (Kd.R_lt (rR_ HO_8))) (Kd.R_lt (rR_ HO_10))) (Kd.R_lt (rR_ HO543))) (Kd.R_lt (rR_ HO550))) (jC (bb_ HB)))
                     have n6_ := bs_ HB hb
                     clear HO_7
                     clear HO_8
                     clear HO_10
                     clear HO543
                     clear HO550
                     clear HB
                     have HO_7 := n0_
                     have HO_8 := n1_
                     have HO_10 := n2_
                     have HO543 := n3_
                     have HO550 := n4_
                     have HO546 := n5_
                     have HB := n6_
                     clear n0_ n1_ n2_ n3_ n4_ n5_ n6_
                     (try clear hb)
                     (try clear hb2)
                     (try clear hk)
                     (try clear hi)
                     (try clear ho0)
                     refine hK.out _ _ (HS0_) (fun hHeld => ?_)
                     clear hK K
                     refine ns_ 71 ?_
                     exact jCp (by simp only [jBM, Act.put, ss_]) (hCont (.slice Ao49 y541.length co49, v545, v549) _ ⟨hHeld, (by refine pR_ ?_; exact Kd.jT HO543.out (fun _ hk => ⟨hk.2, ⟨hk.1.2, ⟨hk.1.1.2, ⟨hk.1.1.1.1.2, hk.1.1.1.2⟩⟩⟩⟩)), (by refine pR_ ?_; exact Kd.jT HO546.out (fun _ hk => ⟨hk.1.2, ⟨hk.2, ⟨hk.1.1.2, ⟨hk.1.1.1.1.2, hk.1.1.1.2⟩⟩⟩⟩)), (by refine pR_ ?_; exact Kd.jT HO550.out (fun _ hk => ⟨hk.1.2, ⟨hk.2, ⟨hk.1.1.2, ⟨hk.1.1.1.1.2, hk.1.1.1.2⟩⟩⟩⟩)), (by refine pR_ ?_; exact Kd.jT HO_10.out (fun _ hk => ⟨hk.1.1.2, ⟨hk.2, ⟨hk.1.2, ⟨hk.1.1.1.1, hk.1.1.1.2⟩⟩⟩⟩)), (by refine pR_ ?_; exact Kd.jT HO_7.out (fun _ hk => ⟨hk.1.1.2, ⟨hk.2, ⟨hk.1.2, ⟨hk.1.1.1.2, hk.1.1.1.1⟩⟩⟩⟩)), (by refine pR_ ?_; exact Kd.jT HO_8.out (fun _ hk => ⟨hk.1.1.2, ⟨hk.2, ⟨hk.1.2, ⟨hk.1.1.1.2, hk.1.1.1.1⟩⟩⟩⟩)), (bb_ HB)⟩)
                   ·
                    skip
                    refine Kd.qj (Kd.int .u64) _ 22 ?hg (N := 76) ?hd (xs := ([rd t526 x11_4] : List Int)) (inner := [.int .u64 (rd t526 x11_4)]) (ok := fun _ => True) (okp := fun _ => True) ?hr ?hp (fun _ hk => hk) trivial (Below.refl _ _) (Nat.le_refl _) (by simp) ?_; (case hd => rfl); (case hg => rfl); (case hr => exact gs_); (case hp => exact (Reps.one (show Kd.M (Kd.int .u64) _ _ _ (rd t526 x11_4) [.int .u64 (rd t526 x11_4)] from rfl) (Reps.none _ _)))
                    intro v549 w45 ho46 hb hg_ hnew_
                    have HS0_ := (hb.cell (World.block_lt_of_cell? _ _ (hHeld))).trans (hHeld)
                    clear hg_ hnew_
                    (first | rw [← Ny548.out] at ho46 | (simp only [Int.reduceToNat] at ho46; rw [← Ny548.out] at ho46))
                    have n0_ := re_ HO_7 ho46 hb
                    have n1_ := re_ HO_8 ho46 hb
                    have n2_ := re_ HO_10 ho46 hb
                    have n3_ := jA.mk (Kd.jN (Kd.jL (Kd.jL (Kd.jL ho46 (Kd.R_lt (rR_ HO_7))) (Kd.R_lt (rR_ HO_8))) (Kd.R_lt (rR_ HO_10))) (jC (bb_ HB)))
                    have n4_ := bs_ HB hb
                    clear HO_7
                    clear HO_8
                    clear HO_10
                    clear HB
                    have HO_7 := n0_
                    have HO_8 := n1_
                    have HO_10 := n2_
                    have HO550 := n3_
                    have HB := n4_
                    clear n0_ n1_ n2_ n3_ n4_
                    clear hb ho46
                    refine hK.out _ _ (HS0_) (fun hHeld => ?_)
                    clear hK K
                    refine ns_ 76 ?_
                    refine one_ (i := 1) (N := some 70) (ba_ 10 251) rfl rfl (vv HT_.out kr_) (by decide) (fun K hK => ?_)
                    refine Kd.qj (Kd.int .u64) _ 22 ?hg (N := 70) ?hd (xs := ([4294967296] : List Int)) (inner := [.int .u64 4294967296]) (ok := fun _ => True) (okp := fun _ => True) ?hr ?hp (fun _ hk => hk) trivial (Below.refl _ _) (Nat.le_refl _) (by simp) ?_; (case hd => rfl); (case hg => rfl); (case hr => exact gs_); (case hp => exact (Reps.one (show Kd.M (Kd.int .u64) _ _ _ 4294967296 [.int .u64 4294967296] from rfl) (Reps.none _ _)))
                    intro v542 w47 ho48 hb hg_ hnew_
                    have HS0_ := (hb.cell (World.block_lt_of_cell? _ _ (hHeld))).trans (hHeld)
                    clear hg_ hnew_
                    (first | rw [← Ny541.out] at ho48 | (simp only [Int.reduceToNat] at ho48; rw [← Ny541.out] at ho48))
                    have n0_ := re_ HO_7 ho48 hb
                    have n1_ := re_ HO_8 ho48 hb
                    have n2_ := re_ HO_10 ho48 hb
                    have n3_ := re_ HO550 ho48 hb
                    have n4_ := jA.mk (Kd.jN (Kd.jL (Kd.jL (Kd.jL (Kd.jL ho48 (Kd.R_lt (rR_ HO_7))) (Kd.R_lt (rR_ HO_8))) (Kd.R_lt (rR_ HO_10))) (Kd.R_lt (rR_ HO550))) (jC (bb_ HB)))
                    have n5_ := bs_ HB hb
                    clear HO_7
                    clear HO_8
                    clear HO_10
                    clear HO550
                    clear HB
                    have HO_7 := n0_
                    have HO_8 := n1_
                    have HO_10 := n2_
                    have HO550 := n3_
                    have HO543 := n4_
                    have HB := n5_
                    clear n0_ n1_ n2_ n3_ n4_ n5_
                    clear hb ho48
                    obtain ⟨Ao49, co49, eo49⟩ := Kd.jV HO543.out
                    (first | subst eo49 | (injection eo49 with f1_ f2_ f3_; have f4_ := f1_.symm; have f5_ := f3_.symm; clear f1_ f2_ f3_; subst f4_; subst f5_))
                    refine hK.out _ _ (HS0_) (fun hHeld => ?_)
                    clear hK K
                    refine ns_ 70 ?_
                    refine one_ (i := 2) (N := some 71) (ba_ 10 255) rfl rfl (vv HT_.out kr_) (by decide) (fun K hK => ?_)
                    refine jAQ Try.func23 kr_ rfl #[.slice Ao43 x10_4.length co43, .slice Ao49 y541.length co49] (by rfl) rfl rfl (by (try simp only [List.map_toArray, List.map_cons, List.map_nil]); first | done | rfl | (simp only [List.length_drop, List.length_take]; rfl)) ?_
                    with_reducible refine (jF.calls k4 _ _ x10_4 _ _ y541 t544 _ ?side1 ?side2 ?side3 ?side4 A32.out).mono ?_
                    (case side1 => exact cc_ (Kd.jE HO_10.out).2.2)
                    (case side2 => exact (Kd.jE HO_10.out).2.1)
                    (case side3 => exact cc_ (Kd.jE HO543.out).2.2)
                    (case side4 => exact (Kd.jE HO543.out).2.1)
                    rintro e w50 ⟨v545, rfl, ho0, hb⟩
                    have HS0_ := (hb.cell (World.block_lt_of_cell? _ _ (hHeld))).trans (hHeld)
                    refine ⟨_, rfl, ?_⟩
                    have n0_ := re_ HO_7 ho0 hb
                    have n1_ := re_ HO_8 ho0 hb
                    have n2_ := re_ HO_10 ho0 hb
                    have n3_ := re_ HO550 ho0 hb
                    have n4_ := re_ HO543 ho0 hb
                    have n5_ := jA.mk (Kd.jN (Kd.jL (Kd.jL (Kd.jL (Kd.jL (Kd.jL ho0 (Kd.R_lt (rR_ HO_7))) (Kd.R_lt (rR_ HO_8))) (Kd.R_lt (rR_ HO_10))) (Kd.R_lt (rR_ HO550))) (Kd.R_lt (rR_ HO543))) (jC (bb_ HB)))
                    have n6_ := bs_ HB hb
                    clear HO_7
                    clear HO_8
                    clear HO_10
                    clear HO550
                    clear HO543
                    clear HB
                    have HO_7 := n0_
                    have HO_8 := n1_
                    have HO_10 := n2_
                    have HO550 := n3_
                    have HO543 := n4_
                    have HO546 := n5_
                    have HB := n6_
                    clear n0_ n1_ n2_ n3_ n4_ n5_ n6_
                    (try clear hb)
                    (try clear hb2)
                    (try clear hk)
                    (try clear hi)
                    (try clear ho0)
                    refine hK.out _ _ (HS0_) (fun hHeld => ?_)
                    clear hK K
                    refine ns_ 71 ?_
                    exact jCp (by simp only [jBM, Act.put, ss_]) (hCont (.slice Ao49 y541.length co49, v545, v549) _ ⟨hHeld, (by refine pR_ ?_; exact Kd.jT HO543.out (fun _ hk => ⟨hk.2, ⟨hk.1.2, ⟨hk.1.1.2, ⟨hk.1.1.1.1.2, hk.1.1.1.2⟩⟩⟩⟩)), (by refine pR_ ?_; exact Kd.jT HO546.out (fun _ hk => ⟨hk.2, ⟨hk.1.2, ⟨hk.1.1.2, ⟨hk.1.1.1.1.2, hk.1.1.1.2⟩⟩⟩⟩)), (by refine pR_ ?_; exact Kd.jT HO550.out (fun _ hk => ⟨hk.1.2, ⟨hk.2, ⟨hk.1.1.2, ⟨hk.1.1.1.1.2, hk.1.1.1.2⟩⟩⟩⟩)), (by refine pR_ ?_; exact Kd.jT HO_10.out (fun _ hk => ⟨hk.1.2, ⟨hk.2, ⟨hk.1.1.2, ⟨hk.1.1.1.1, hk.1.1.1.2⟩⟩⟩⟩)), (by refine pR_ ?_; exact Kd.jT HO_7.out (fun _ hk => ⟨hk.1.2, ⟨hk.2, ⟨hk.1.1.2, ⟨hk.1.1.1.2, hk.1.1.1.1⟩⟩⟩⟩)), (by refine pR_ ?_; exact Kd.jT HO_8.out (fun _ hk => ⟨hk.1.2, ⟨hk.2, ⟨hk.1.1.2, ⟨hk.1.1.1.2, hk.1.1.1.1⟩⟩⟩⟩)), (bb_ HB)⟩)
                  rintro ⟨v542, v545, v549⟩ w51 ⟨hS_, h0_, h1_, h2_, h3_, h4_, h5_, h6_⟩
                  have n0_ : jA (Kd.R (Kd.int .u64) 22 w51 w.heap.size (fun k_ => some k_ ≠ (v545 : Value).ownBlock ∧ some k_ ≠ (v549 : Value).ownBlock ∧ some k_ ≠ (.slice Ao43 x10_4.length co43 : Value).ownBlock ∧ some k_ ≠ (.slice (some ad547) t526.length co28 : Value).ownBlock ∧ some k_ ≠ (u8 : Value).ownBlock) v542 y541) := ⟨h0_⟩
                  have n1_ : jA (Kd.R (Kd.int .u64) 22 w51 w.heap.size (fun k_ => some k_ ≠ (v542 : Value).ownBlock ∧ some k_ ≠ (v549 : Value).ownBlock ∧ some k_ ≠ (.slice Ao43 x10_4.length co43 : Value).ownBlock ∧ some k_ ≠ (.slice (some ad547) t526.length co28 : Value).ownBlock ∧ some k_ ≠ (u8 : Value).ownBlock) v545 t544) := ⟨h1_⟩
                  have n2_ : jA (Kd.R (Kd.int .u64) 22 w51 w.heap.size (fun k_ => some k_ ≠ (v542 : Value).ownBlock ∧ some k_ ≠ (v545 : Value).ownBlock ∧ some k_ ≠ (.slice Ao43 x10_4.length co43 : Value).ownBlock ∧ some k_ ≠ (.slice (some ad547) t526.length co28 : Value).ownBlock ∧ some k_ ≠ (u8 : Value).ownBlock) v549 y548) := ⟨h2_⟩
                  have n3_ : jA (Kd.R (Kd.int .u64) 22 w51 w.heap.size (fun k_ => some k_ ≠ (v542 : Value).ownBlock ∧ some k_ ≠ (v545 : Value).ownBlock ∧ some k_ ≠ (v549 : Value).ownBlock ∧ some k_ ≠ (.slice (some ad547) t526.length co28 : Value).ownBlock ∧ some k_ ≠ (u8 : Value).ownBlock) (.slice Ao43 x10_4.length co43) x10_4) := ⟨h3_⟩
                  have n4_ : jA (Kd.R (Kd.int .u64) 22 w51 w.heap.size (fun k_ => some k_ ≠ (v542 : Value).ownBlock ∧ some k_ ≠ (v545 : Value).ownBlock ∧ some k_ ≠ (v549 : Value).ownBlock ∧ some k_ ≠ (.slice Ao43 x10_4.length co43 : Value).ownBlock ∧ some k_ ≠ (u8 : Value).ownBlock) (.slice (some ad547) t526.length co28) t526) := ⟨h4_⟩
                  have n5_ : jA (Kd.R (Kd.int .u64) 22 w51 w.heap.size (fun k_ => some k_ ≠ (v542 : Value).ownBlock ∧ some k_ ≠ (v545 : Value).ownBlock ∧ some k_ ≠ (v549 : Value).ownBlock ∧ some k_ ≠ (.slice Ao43 x10_4.length co43 : Value).ownBlock ∧ some k_ ≠ (.slice (some ad547) t526.length co28 : Value).ownBlock) u8 x8_4) := ⟨h5_⟩
                  have n6_ : jA (Below w.heap.size w w51) := ⟨h6_⟩
                  clear HO_7
                  clear HO_8
                  clear HO_10
                  clear HB
                  clear h0_ h1_ h2_ h3_ h4_ h5_ h6_
                  have HO543 := n0_
                  have HO546 := n1_
                  have HO550 := n2_
                  have HO_10 := n3_
                  have HO_7 := n4_
                  have HO_8 := n5_
                  have HB := n6_
                  clear n0_ n1_ n2_ n3_ n4_ n5_ n6_
                  have hHeld : w51.cell? (ad547.add (x11_4).toNat) = some (.int .u64 (rd t526 x11_4)) := hS_
                  obtain ⟨Ao52, co52, eo52⟩ := Kd.jV HO546.out
                  (first | subst eo52 | (injection eo52 with f1_ f2_ f3_; have f4_ := f1_.symm; have f5_ := f3_.symm; clear f1_ f2_ f3_; subst f4_; subst f5_))
                  obtain ⟨Ao53, co53, eo53⟩ := Kd.jV HO550.out
                  (first | subst eo53 | (injection eo53 with f1_ f2_ f3_; have f4_ := f1_.symm; have f5_ := f3_.symm; clear f1_ f2_ f3_; subst f4_; subst f5_))
                  refine jCp (a' := ?_) ?_ ?_
                  rotate_left
                  ·
                   simp only [jBM, Act.put, ss_]
                   rfl
                  refine one_ (i := 8) (N := some 77) (ba_ 10 511) rfl rfl (vv HT_.out kr_) (by decide) (fun K hK => ?_)
                  refine jAQ Try.func102 kr_ rfl #[.slice Ao52 t544.length co52, .slice Ao53 y548.length co53] (by rfl) rfl rfl (by (try simp only [List.map_toArray, List.map_cons, List.map_nil]); first | done | rfl | (simp only [List.length_drop, List.length_take]; rfl)) ?_
                  with_reducible refine (jO.calls k4 _ _ t544 _ _ y548 t551 _ ?side1 ?side2 ?side3 ?side4 A35.out).mono ?_
                  (case side1 => exact cc_ (Kd.jE HO546.out).2.2)
                  (case side2 => exact (Kd.jE HO546.out).2.1)
                  (case side3 => exact cc_ (Kd.jE HO550.out).2.2)
                  (case side4 => exact (Kd.jE HO550.out).2.1)
                  rintro e w54 ⟨v552, rfl, ho0, hb⟩
                  have HS0_ := (hb.cell (World.block_lt_of_cell? _ _ (hHeld))).trans (hHeld)
                  refine ⟨_, rfl, ?_⟩
                  have n0_ := re_ HO_7 ho0 hb
                  have n1_ := re_ HO_8 ho0 hb
                  have n2_ := re_ HO_10 ho0 hb
                  have n3_ := re_ HO543 ho0 hb
                  have n4_ := re_ HO546 ho0 hb
                  have n5_ := re_ HO550 ho0 hb
                  have n6_ := jA.mk (Kd.jN (Kd.jL (Kd.jL (Kd.jL (Kd.jL (Kd.jL (Kd.jL ho0 (Kd.R_lt (rR_ HO_7))) (Kd.R_lt (rR_ HO_8))) (Kd.R_lt (rR_ HO_10))) (Kd.R_lt (rR_ HO543))) (Kd.R_lt (rR_ HO546))) (Kd.R_lt (rR_ HO550))) (jC (bb_ HB)))
                  have n7_ := bs_ HB hb
                  clear HO_7
                  clear HO_8
                  clear HO_10
                  clear HO543
                  clear HO546
                  clear HO550
                  clear HB
                  have HO_7 := n0_
                  have HO_8 := n1_
                  have HO_10 := n2_
                  have HO543 := n3_
                  have HO546 := n4_
                  have HO550 := n5_
                  have HO553 := n6_
                  have HB := n7_
                  clear n0_ n1_ n2_ n3_ n4_ n5_ n6_ n7_
                  (try clear hb)
                  (try clear hb2)
                  (try clear hk)
                  (try clear hi)
                  (try clear ho0)
                  refine hK.out _ _ (HS0_) (fun hHeld => ?_)
                  clear hK K
                  refine ns_ 77 ?_
                  refine pu_ 9 (some 10) (ba_ 10 1023) (jd HT_.out kr_) ?_
                  refine jAv (jAn HT_.out kr_) ?_
                  obtain ⟨Ao55, co55, eo55⟩ := Kd.jV HO553.out
                  subst eo55
                  try go_wp2_with (first | ((with_reducible refine jH (f := 103) rfl ?_); refine gl_ (some 80) Try.func103 #[.slice Ao55 t551.length co55, .slice A1 l1.length c1] ?_; (with_reducible refine (jR.calls k4 _ _ t551 _ _ l1 t554 _ ?side1 ?side2 ?side3 ?side4 A36.out).mono ?_); (case side1 => exact cc_ (Kd.jE HO553.out).2.2); (case side2 => exact (Kd.jE HO553.out).2.1); (case side3 => exact cb_ HR1 HB); (case side4 => exact HC1.out); rintro e w56 ⟨rfl, hb⟩; refine ⟨_, rfl, ?_⟩; replace HO_7 := ro_ HO_7 hb; replace HO_8 := ro_ HO_8 hb; replace HO_10 := ro_ HO_10 hb; replace HO543 := ro_ HO543 hb; replace HO546 := ro_ HO546 hb; replace HO550 := ro_ HO550 hb; replace HO553 := ro_ HO553 hb; replace HB := bs_ HB hb) | ((with_reducible refine jH (f := 104) rfl ?_); refine gl_ (some 86) Try.func104 #[.slice Ao55 t551.length co55, .slice A1 l1.length c1] ?_; (with_reducible refine (jY.calls k4 _ _ t551 _ _ l1 t555 _ ?side1 ?side2 ?side3 ?side4 A38.out).mono ?_); (case side1 => exact cc_ (Kd.jE HO553.out).2.2); (case side2 => exact (Kd.jE HO553.out).2.1); (case side3 => exact cb_ HR1 HB); (case side4 => exact HC1.out); rintro e w57 ⟨rfl, hb⟩; refine ⟨_, rfl, ?_⟩; replace HO_7 := ro_ HO_7 hb; replace HO_8 := ro_ HO_8 hb; replace HO_10 := ro_ HO_10 hb; replace HO543 := ro_ HO543 hb; replace HO546 := ro_ HO546 hb; replace HO550 := ro_ HO550 hb; replace HO553 := ro_ HO553 hb; replace HB := bs_ HB hb; have p40 : 0 ≤ (x11_4 : Int) := of_decide_eq_true am_; have q40 : (x11_4 : Int) < ((x8_4.length : Int) : Int) := of_decide_eq_true am_; obtain ⟨go40, co40, eo40, gb40, gl40, cl40, HG40⟩ := Kd.jAB HO_8.out (by omega); (first | cases eo40 | (injection eo40 with ea_ en_ ec_; (first | subst ea_ | (injection ea_ with ea_; subst ea_)); subst ec_; clear en_)); have GB40 := jA.mk gb40; have GG40 := jA.mk HG40; clear gb40 gl40 HG40; obtain ⟨hx40_0, hf40_0⟩ := Kd.zK 0 HO_8.out (x11_4 : Int) p40 q40; replace p40 := eq_true p40; replace q40 := eq_true q40; have n_ := jA.mk (Kd.jT (ok' := (fun k_ => some k_ ≠ (.slice (some ad547) t526.length co28 : Value).ownBlock ∧ some k_ ≠ (.slice Ao43 x10_4.length co43 : Value).ownBlock ∧ some k_ ≠ (v542 : Value).ownBlock ∧ some k_ ≠ (.slice Ao52 t544.length co52 : Value).ownBlock ∧ some k_ ≠ (.slice Ao53 y548.length co53 : Value).ownBlock ∧ some k_ ≠ (.slice Ao55 t551.length co55 : Value).ownBlock)) HO_8.out (fun k_ hk => ⟨hk.1.2.2.2.2, ⟨hk.1.2.2.2.1, ⟨hk.1.1, ⟨hk.1.2.1, ⟨hk.1.2.2.1, hk.2⟩⟩⟩⟩⟩)); clear HO_8; have HO_8 := n_; clear n_; obtain ⟨hy58_, hz58_⟩ := Kd.zK 0 HO_8.out (x11_4 : Int) (of_decide_eq_true am_) (of_decide_eq_true am_); have HP58 := Kd.qw HO_8.out (x11_4 : Int) t555) | ((with_reducible refine zu (t := 22) (p := 87) rfl ?_); refine zX (t := 22) (p := 87) (v := ?vo_w59) (w1 := (w57.setCell ⟨go40, (x11_4 : Int).toNat, none⟩ (.int .u64 t555))) ?hg ?ho ?hn ?hr ?_; (case ho => rfl); (case hg => rfl); (case hn => rfl); (case hr => exact gs_); intro w59 hw; have hg : w57.grownBy w59 (some go40) := (by rw [hw]; exact HP58.2); have hp_ : Kd.R (Kd.int .u64) 22 w59 w.heap.size (fun k_ => some k_ ≠ (.slice (some ad547) t526.length co28 : Value).ownBlock ∧ some k_ ≠ (.slice Ao43 x10_4.length co43 : Value).ownBlock ∧ some k_ ≠ (v542 : Value).ownBlock ∧ some k_ ≠ (.slice Ao52 t544.length co52 : Value).ownBlock ∧ some k_ ≠ (.slice Ao53 y548.length co53 : Value).ownBlock ∧ some k_ ≠ (.slice Ao55 t551.length co55 : Value).ownBlock) (.slice (some ⟨go40, 0, none⟩) x8_4.length co40) y556 := (by rw [hw, Ny556.out]; exact HP58.1); clear HP58; replace HO_7 := jA.mk (Kd.zW (v := (.slice (some ⟨go40, 0, none⟩) x8_4.length co40)) (v1 := (.slice (some ⟨go40, 0, none⟩) x8_4.length co40)) (ok := (fun k_ => some k_ ≠ (.slice Ao43 x10_4.length co43 : Value).ownBlock ∧ some k_ ≠ (v542 : Value).ownBlock ∧ some k_ ≠ (.slice Ao52 t544.length co52 : Value).ownBlock ∧ some k_ ≠ (.slice Ao53 y548.length co53 : Value).ownBlock ∧ some k_ ≠ (.slice Ao55 t551.length co55 : Value).ownBlock)) (by refine pR_ ?_; exact Kd.jT HO_7.out (fun _ hk => ⟨⟨hk.1.2.2.2.1, ⟨hk.1.1, ⟨hk.1.2.1, ⟨hk.1.2.2.1, hk.2⟩⟩⟩⟩, hk.1.2.2.2.2⟩)) hg (.inl rfl)); replace HO_8 := jA.mk (hp_); replace HO_10 := jA.mk (Kd.zW (v := (.slice (some ⟨go40, 0, none⟩) x8_4.length co40)) (v1 := (.slice (some ⟨go40, 0, none⟩) x8_4.length co40)) (ok := (fun k_ => some k_ ≠ (.slice (some ad547) t526.length co28 : Value).ownBlock ∧ some k_ ≠ (v542 : Value).ownBlock ∧ some k_ ≠ (.slice Ao52 t544.length co52 : Value).ownBlock ∧ some k_ ≠ (.slice Ao53 y548.length co53 : Value).ownBlock ∧ some k_ ≠ (.slice Ao55 t551.length co55 : Value).ownBlock)) (by refine pR_ ?_; exact Kd.jT HO_10.out (fun _ hk => ⟨⟨hk.1.2.2.2.1, ⟨hk.1.1, ⟨hk.1.2.1, ⟨hk.1.2.2.1, hk.2⟩⟩⟩⟩, hk.1.2.2.2.2⟩)) hg (.inl rfl)); replace HO543 := jA.mk (Kd.zW (v := (.slice (some ⟨go40, 0, none⟩) x8_4.length co40)) (v1 := (.slice (some ⟨go40, 0, none⟩) x8_4.length co40)) (ok := (fun k_ => some k_ ≠ (.slice (some ad547) t526.length co28 : Value).ownBlock ∧ some k_ ≠ (.slice Ao43 x10_4.length co43 : Value).ownBlock ∧ some k_ ≠ (.slice Ao52 t544.length co52 : Value).ownBlock ∧ some k_ ≠ (.slice Ao53 y548.length co53 : Value).ownBlock ∧ some k_ ≠ (.slice Ao55 t551.length co55 : Value).ownBlock)) (by refine pR_ ?_; exact Kd.jT HO543.out (fun _ hk => ⟨⟨hk.1.2.2.2.1, ⟨hk.1.2.2.1, ⟨hk.1.1, ⟨hk.1.2.1, hk.2⟩⟩⟩⟩, hk.1.2.2.2.2⟩)) hg (.inl rfl)); replace HO546 := jA.mk (Kd.zW (v := (.slice (some ⟨go40, 0, none⟩) x8_4.length co40)) (v1 := (.slice (some ⟨go40, 0, none⟩) x8_4.length co40)) (ok := (fun k_ => some k_ ≠ (.slice (some ad547) t526.length co28 : Value).ownBlock ∧ some k_ ≠ (.slice Ao43 x10_4.length co43 : Value).ownBlock ∧ some k_ ≠ (v542 : Value).ownBlock ∧ some k_ ≠ (.slice Ao53 y548.length co53 : Value).ownBlock ∧ some k_ ≠ (.slice Ao55 t551.length co55 : Value).ownBlock)) (by refine pR_ ?_; exact Kd.jT HO546.out (fun _ hk => ⟨⟨hk.1.2.2.2.1, ⟨hk.1.2.2.1, ⟨hk.1.1, ⟨hk.1.2.1, hk.2⟩⟩⟩⟩, hk.1.2.2.2.2⟩)) hg (.inl rfl)); replace HO550 := jA.mk (Kd.zW (v := (.slice (some ⟨go40, 0, none⟩) x8_4.length co40)) (v1 := (.slice (some ⟨go40, 0, none⟩) x8_4.length co40)) (ok := (fun k_ => some k_ ≠ (.slice (some ad547) t526.length co28 : Value).ownBlock ∧ some k_ ≠ (.slice Ao43 x10_4.length co43 : Value).ownBlock ∧ some k_ ≠ (v542 : Value).ownBlock ∧ some k_ ≠ (.slice Ao52 t544.length co52 : Value).ownBlock ∧ some k_ ≠ (.slice Ao55 t551.length co55 : Value).ownBlock)) (by refine pR_ ?_; exact Kd.jT HO550.out (fun _ hk => ⟨⟨hk.1.2.2.2.1, ⟨hk.1.2.2.1, ⟨hk.1.1, ⟨hk.1.2.1, hk.2⟩⟩⟩⟩, hk.1.2.2.2.2⟩)) hg (.inl rfl)); replace HO553 := jA.mk (Kd.zW (v := (.slice (some ⟨go40, 0, none⟩) x8_4.length co40)) (v1 := (.slice (some ⟨go40, 0, none⟩) x8_4.length co40)) (ok := (fun k_ => some k_ ≠ (.slice (some ad547) t526.length co28 : Value).ownBlock ∧ some k_ ≠ (.slice Ao43 x10_4.length co43 : Value).ownBlock ∧ some k_ ≠ (v542 : Value).ownBlock ∧ some k_ ≠ (.slice Ao52 t544.length co52 : Value).ownBlock ∧ some k_ ≠ (.slice Ao53 y548.length co53 : Value).ownBlock)) (by refine pR_ ?_; exact Kd.jT HO553.out (fun _ hk => ⟨⟨hk.1.1.1.1.1.2, ⟨hk.1.1.1.2, ⟨hk.1.1.2, ⟨hk.1.2, hk.2⟩⟩⟩⟩, hk.1.1.1.1.2⟩)) hg (.inl rfl)); replace HB := jA.mk ((by rw [hw]; exact vI (HB.out) GB40.out : Below w.heap.size w w59)); clear hg hw hp_; have p557 : 0 ≤ (x11_4 : Int) := of_decide_eq_true am_; have q557 : x11_4 < (y556.length : Int) := (by have h_ : (x11_4 : Int) < ((x8_4.length : Int) : Int) := of_decide_eq_true am_; first | (have e_ := (Kd.jE HO_8.out).1; omega) | simpa only [Ny556.out, List.length_set] using h_); have ql557 : ((x11_4 : Int) < ((x8_4.length : Int) : Int)) = True := eq_true (of_decide_eq_true am_); obtain ⟨ad557, e557, hx557_0⟩ := Kd.vw (Kd.jE HO_8.out).2.2 x11_4 p557 q557; obtain rfl : (⟨go40, 0, none⟩ : Addr) = ad557 := (by injection e557); (first | simp only [add_plain] at hx557_0 | simp only [jGg] at hx557_0 | simp only [Addr.add, Nat.zero_add] at hx557_0 | skip); replace p557 := eq_true p557; replace q557 := eq_true q557) | ((with_reducible refine jX (N := 95) rfl ?_); (try (refine jr (by rfl) ?_; dsimp only)); refine Kd.jAC (Kd.int .u64) _ 22 ?hg (N := 95) ?hd (xs := ([rd y556 x11_4] : List Int)) (inner := [.int .u64 (rd y556 x11_4)]) (ok := fun _ => True) (okp := fun _ => True) ?hr ?hp (fun _ hk => hk) trivial (Below.refl _ _) (Nat.le_refl _) (by simp) ?_; (case hd => rfl); (case hg => rfl); (case hr => exact gs_); (case hp => exact (Reps.one (show Kd.M (Kd.int .u64) _ _ _ (rd y556 x11_4) [.int .u64 (rd y556 x11_4)] from rfl) (Reps.none _ _))); intro v559 w60 ho61 hb hg_ hnew_; clear hg_ hnew_; (first | rw [← Ny558.out] at ho61 | (simp only [Int.reduceToNat] at ho61; rw [← Ny558.out] at ho61)); have HO560 := jA.mk (Kd.jN (Kd.jL (Kd.jL (Kd.jL (Kd.jL (Kd.jL (Kd.jL (Kd.jL ho61 (Kd.R_lt (rR_ HO_7))) (Kd.R_lt (rR_ HO_8))) (Kd.R_lt (rR_ HO_10))) (Kd.R_lt (rR_ HO543))) (Kd.R_lt (rR_ HO546))) (Kd.R_lt (rR_ HO550))) (Kd.R_lt (rR_ HO553))) (jC (bb_ HB))); replace HO_7 := re_ HO_7 ho61 hb; replace HO_8 := re_ HO_8 ho61 hb; replace HO_10 := re_ HO_10 ho61 hb; replace HO543 := re_ HO543 ho61 hb; replace HO546 := re_ HO546 ho61 hb; replace HO550 := re_ HO550 ho61 hb; replace HO553 := re_ HO553 ho61 hb; replace HB := bs_ HB hb; clear hb ho61; obtain ⟨Ao62, co62, rfl⟩ := Kd.jV HO560.out) | ((with_reducible refine jH (f := 23) rfl ?_); refine gl_ (some 96) Try.func23 #[.slice A1 l1.length c1, .slice Ao62 y558.length co62] ?_; (with_reducible refine (jF.calls k4 _ _ l1 _ _ y558 t561 _ ?side1 ?side2 ?side3 ?side4 A41.out).mono ?_); (case side1 => exact cb_ HR1 HB); (case side2 => exact HC1.out); (case side3 => exact cc_ (Kd.jE HO560.out).2.2); (case side4 => exact (Kd.jE HO560.out).2.1); rintro e w63 ⟨v562, rfl, ho0, hb⟩; refine ⟨_, rfl, ?_⟩; have HO563 := jA.mk (Kd.jN (Kd.jL (Kd.jL (Kd.jL (Kd.jL (Kd.jL (Kd.jL (Kd.jL (Kd.jL ho0 (Kd.R_lt (rR_ HO_7))) (Kd.R_lt (rR_ HO_8))) (Kd.R_lt (rR_ HO_10))) (Kd.R_lt (rR_ HO543))) (Kd.R_lt (rR_ HO546))) (Kd.R_lt (rR_ HO550))) (Kd.R_lt (rR_ HO553))) (Kd.R_lt (rR_ HO560))) (jC (bb_ HB))); replace HO_7 := re_ HO_7 ho0 hb; replace HO_8 := re_ HO_8 ho0 hb; replace HO_10 := re_ HO_10 ho0 hb; replace HO543 := re_ HO543 ho0 hb; replace HO546 := re_ HO546 ho0 hb; replace HO550 := re_ HO550 ho0 hb; replace HO553 := re_ HO553 ho0 hb; replace HO560 := re_ HO560 ho0 hb; replace HB := bs_ HB hb; obtain ⟨Ao64, co64, rfl⟩ := Kd.jV HO563.out) | ((with_reducible refine jH (f := 105) rfl ?_); refine gl_ (some 97) Try.func105 #[.slice Ao55 t551.length co55, .slice Ao64 t561.length co64] ?_; (with_reducible refine (jc.calls k4 _ _ t551 _ _ t561 t564 t565 _ ?side1 ?side2 ?side3 ?side4 A42.out).mono ?_); (case side1 => exact cc_ (Kd.jE HO553.out).2.2); (case side2 => exact (Kd.jE HO553.out).2.1); (case side3 => exact cc_ (Kd.jE HO563.out).2.2); (case side4 => exact (Kd.jE HO563.out).2.1); rintro e w65 ⟨v566, rfl, ho0, hb⟩; refine ⟨_, rfl, ?_⟩; have HO567 := jA.mk (Kd.jN (Kd.jL (Kd.jL (Kd.jL (Kd.jL (Kd.jL (Kd.jL (Kd.jL (Kd.jL (Kd.jL ho0 (Kd.R_lt (rR_ HO_7))) (Kd.R_lt (rR_ HO_8))) (Kd.R_lt (rR_ HO_10))) (Kd.R_lt (rR_ HO543))) (Kd.R_lt (rR_ HO546))) (Kd.R_lt (rR_ HO550))) (Kd.R_lt (rR_ HO553))) (Kd.R_lt (rR_ HO560))) (Kd.R_lt (rR_ HO563))) (jC (bb_ HB))); replace HO_7 := re_ HO_7 ho0 hb; replace HO_8 := re_ HO_8 ho0 hb; replace HO_10 := re_ HO_10 ho0 hb; replace HO543 := re_ HO543 ho0 hb; replace HO546 := re_ HO546 ho0 hb; replace HO550 := re_ HO550 ho0 hb; replace HO553 := re_ HO553 ho0 hb; replace HO560 := re_ HO560 ho0 hb; replace HO563 := re_ HO563 ho0 hb; replace HB := bs_ HB hb))
                  go_roundg k4
                  case measure => have := HJ2.out; have := HJ8.out; have := HK3.out; have := HK4.out; omega
                  case rel => exact ⟨(y556), (t564), (wrap64 (x11_4 - 1)), sd_, H', ⟨by have := HJ2.out; have := HJ8.out; have := HK3.out; have := HK4.out; omega⟩, ⟨by (with_reducible repeat (first | apply Kd.zM | apply Kd.zT | apply Kd.zZ)); exact Kd.jT HO_7.out (fun _ hk => ⟨hk.1.1.1.2, hk.2⟩)⟩, ⟨by (with_reducible repeat (first | apply Kd.zM | apply Kd.zT | apply Kd.zZ)); exact Kd.jT HO_8.out (fun _ hk => ⟨hk.1.1.1.1, hk.2⟩)⟩, ⟨by (with_reducible repeat (first | apply Kd.zM | apply Kd.zT | apply Kd.zZ)); exact Kd.jT HO567.out (fun _ hk => ⟨hk.1.1.1.1.1.1.1.1.2, hk.1.1.1.1.1.1.1.2⟩)⟩, ⟨(bb_ HB)⟩⟩
                 ·
                  rw [if_neg c39] at H
                  exact absurd H (by simp)
                ·
                 rw [if_neg c37] at H
                 have c37b0 := decide_eq_false c37
                 clear c37
                 have H' := jA.mk H
                 clear H
                 obtain ⟨Ao66, co66, eo66⟩ := Kd.jV HO_10.out
                 subst eo66
                 try go_wp2
                 have n0_ := jA.mk (Kd.zZ HO_7.out)
                 have n1_ := jA.mk (Kd.zZ HO_8.out)
                 have n2_ := jA.mk (Kd.zZ HO_10.out)
                 have n3_ := jA.mk (zY HB.out)
                 clear HO_7
                 clear HO_8
                 clear HO_10
                 clear HB
                 have HO_7 := n0_
                 have HO_8 := n1_
                 have HO_10 := n2_
                 have HB := n3_
                 clear n0_ n1_ n2_ n3_
                 have p547 : 0 ≤ (x11_4 : Int) := of_decide_eq_true am_
                 have q547 : x11_4 < (t526.length : Int) := of_decide_eq_true am_
                 obtain ⟨ad547, e547, hx547_0⟩ := Kd.vw (Kd.jE HO_7.out).2.2 x11_4 p547 q547
                 cases e547
                 replace p547 := eq_true p547
                 replace q547 := eq_true q547
                 refine jAU (n := 10) (S := fun w' => w'.cell? (ad547.add (x11_4).toNat) = some (.int .u64 (rd t526 x11_4))) (ds := []) #[false, false, false, false, false, false, false, false, false, false] kr_ rfl rfl (hx547_0) (fun hHeld => ?_); refine qc jD.jJM jD.jHz (fun HT_ HW_ => ?_)
                 generalize wr.drew = w67 at HO_7 HO_8 HO_10 HB hx547_0 hHeld ⊢
                 refine pu_ 0 (some 69) (ba_ 10 1) (jd HT_.out kr_) ?_
                 refine pu_ 3 (some 72) (ba_ 10 9) (jd HT_.out kr_) ?_
                 refine pu_ 4 (some 73) (ba_ 10 25) (jd HT_.out kr_) ?_
                 refine pu_ 5 (some 74) (ba_ 10 57) (jd HT_.out kr_) ?_
                 refine tk1_ 6 (some 75) (ba_ 10 121) (jv HT_.out HW_.out kr_) hHeld ?_
                 refine jJi (σ := Value × Value × Value) 2 #[true, true, true, true, true, true, true, true, false, false] (fun s_ => [(70, s_.1), (71, s_.2.1), (76, s_.2.2)]) (fun s_ w' => (w'.cell? (ad547.add (x11_4).toNat) = some (.int .u64 (rd t526 x11_4))) ∧ (Kd.R (Kd.int .u64) 22 w' w.heap.size (fun k_ => some k_ ≠ (s_.2.1 : Value).ownBlock ∧ some k_ ≠ (s_.2.2 : Value).ownBlock ∧ some k_ ≠ (.slice Ao66 x10_4.length co66 : Value).ownBlock ∧ some k_ ≠ (.slice (some ad547) t526.length co28 : Value).ownBlock ∧ some k_ ≠ (u8 : Value).ownBlock) s_.1 y541) ∧ (Kd.R (Kd.int .u64) 22 w' w.heap.size (fun k_ => some k_ ≠ (s_.1 : Value).ownBlock ∧ some k_ ≠ (s_.2.2 : Value).ownBlock ∧ some k_ ≠ (.slice Ao66 x10_4.length co66 : Value).ownBlock ∧ some k_ ≠ (.slice (some ad547) t526.length co28 : Value).ownBlock ∧ some k_ ≠ (u8 : Value).ownBlock) s_.2.1 t544) ∧ (Kd.R (Kd.int .u64) 22 w' w.heap.size (fun k_ => some k_ ≠ (s_.1 : Value).ownBlock ∧ some k_ ≠ (s_.2.1 : Value).ownBlock ∧ some k_ ≠ (.slice Ao66 x10_4.length co66 : Value).ownBlock ∧ some k_ ≠ (.slice (some ad547) t526.length co28 : Value).ownBlock ∧ some k_ ≠ (u8 : Value).ownBlock) s_.2.2 y548) ∧ (Kd.R (Kd.int .u64) 22 w' w.heap.size (fun k_ => some k_ ≠ (s_.1 : Value).ownBlock ∧ some k_ ≠ (s_.2.1 : Value).ownBlock ∧ some k_ ≠ (s_.2.2 : Value).ownBlock ∧ some k_ ≠ (.slice (some ad547) t526.length co28 : Value).ownBlock ∧ some k_ ≠ (u8 : Value).ownBlock) (.slice Ao66 x10_4.length co66) x10_4) ∧ (Kd.R (Kd.int .u64) 22 w' w.heap.size (fun k_ => some k_ ≠ (s_.1 : Value).ownBlock ∧ some k_ ≠ (s_.2.1 : Value).ownBlock ∧ some k_ ≠ (s_.2.2 : Value).ownBlock ∧ some k_ ≠ (.slice Ao66 x10_4.length co66 : Value).ownBlock ∧ some k_ ≠ (u8 : Value).ownBlock) (.slice (some ad547) t526.length co28) t526) ∧ (Kd.R (Kd.int .u64) 22 w' w.heap.size (fun k_ => some k_ ≠ (s_.1 : Value).ownBlock ∧ some k_ ≠ (s_.2.1 : Value).ownBlock ∧ some k_ ≠ (s_.2.2 : Value).ownBlock ∧ some k_ ≠ (.slice Ao66 x10_4.length co66 : Value).ownBlock ∧ some k_ ≠ (.slice (some ad547) t526.length co28 : Value).ownBlock) u8 x8_4) ∧ (Below w.heap.size w w')) ?_ ?_
                 rotate_left
                 ·
                  intro hCont
                  refine two_ (i := 1) (j := 7) (Ni := some 70) (Nj := some 76) (ba_ 10 123) (ba_ 10 249) rfl rfl rfl rfl (jEh HT_.out kr_) (by decide) (by decide) (fun K hK => ?_) (fun K hK => ?_)
                  ·
                   skip
                   refine Kd.qj (Kd.int .u64) _ 22 ?hg (N := 70) ?hd (xs := ([4294967296] : List Int)) (inner := [.int .u64 4294967296]) (ok := fun _ => True) (okp := fun _ => True) ?hr ?hp (fun _ hk => hk) trivial (Below.refl _ _) (Nat.le_refl _) (by simp) ?_; (case hd => rfl); (case hg => rfl); (case hr => exact gs_); (case hp => exact (Reps.one (show Kd.M (Kd.int .u64) _ _ _ 4294967296 [.int .u64 4294967296] from rfl) (Reps.none _ _)))
                   intro v542 w68 ho69 hb hg_ hnew_
                   have HS0_ := (hb.cell (World.block_lt_of_cell? _ _ (hHeld))).trans (hHeld)
                   clear hg_ hnew_
                   (first | rw [← Ny541.out] at ho69 | (simp only [Int.reduceToNat] at ho69; rw [← Ny541.out] at ho69))
                   have n0_ := re_ HO_7 ho69 hb
                   have n1_ := re_ HO_8 ho69 hb
                   have n2_ := re_ HO_10 ho69 hb
                   have n3_ := jA.mk (Kd.jN (Kd.jL (Kd.jL (Kd.jL ho69 (Kd.R_lt (rR_ HO_7))) (Kd.R_lt (rR_ HO_8))) (Kd.R_lt (rR_ HO_10))) (jC (bb_ HB)))
                   have n4_ := bs_ HB hb
                   clear HO_7
                   clear HO_8
                   clear HO_10
                   clear HB
                   have HO_7 := n0_
                   have HO_8 := n1_
                   have HO_10 := n2_
                   have HO543 := n3_
                   have HB := n4_
                   clear n0_ n1_ n2_ n3_ n4_
                   clear hb ho69
                   obtain ⟨Ao70, co70, eo70⟩ := Kd.jV HO543.out
                   (first | subst eo70 | (injection eo70 with f1_ f2_ f3_; have f4_ := f1_.symm; have f5_ := f3_.symm; clear f1_ f2_ f3_; subst f4_; subst f5_))
                   refine hK.out _ _ (HS0_) (fun hHeld => ?_)
                   clear hK K
                   refine ns_ 70 ?_
                   refine two_ (i := 2) (j := 7) (Ni := some 71) (Nj := some 76) (ba_ 10 127) (ba_ 10 251) rfl rfl rfl rfl (jEh HT_.out kr_) (by decide) (by decide) (fun K hK => ?_) (fun K hK => ?_)
                   ·
                    skip
                    refine jAQ Try.func23 kr_ rfl #[.slice Ao66 x10_4.length co66, .slice Ao70 y541.length co70] (by rfl) rfl rfl (by (try simp only [List.map_toArray, List.map_cons, List.map_nil]); first | done | rfl | (simp only [List.length_drop, List.length_take]; rfl)) ?_
                    with_reducible refine (jF.calls k4 _ _ x10_4 _ _ y541 t544 _ ?side1 ?side2 ?side3 ?side4 A32.out).mono ?_
                    (case side1 => exact cc_ (Kd.jE HO_10.out).2.2)
                    (case side2 => exact (Kd.jE HO_10.out).2.1)
                    (case side3 => exact cc_ (Kd.jE HO543.out).2.2)
                    (case side4 => exact (Kd.jE HO543.out).2.1)
                    rintro e w71 ⟨v545, rfl, ho0, hb⟩
                    have HS0_ := (hb.cell (World.block_lt_of_cell? _ _ (hHeld))).trans (hHeld)
                    refine ⟨_, rfl, ?_⟩
                    have n0_ := re_ HO_7 ho0 hb
                    have n1_ := re_ HO_8 ho0 hb
                    have n2_ := re_ HO_10 ho0 hb
                    have n3_ := re_ HO543 ho0 hb
                    have n4_ := jA.mk (Kd.jN (Kd.jL (Kd.jL (Kd.jL (Kd.jL ho0 (Kd.R_lt (rR_ HO_7))) (Kd.R_lt (rR_ HO_8))) (Kd.R_lt (rR_ HO_10))) (Kd.R_lt (rR_ HO543))) (jC (bb_ HB)))
                    have n5_ := bs_ HB hb
                    clear HO_7
                    clear HO_8
                    clear HO_10
                    clear HO543
                    clear HB
                    have HO_7 := n0_
                    have HO_8 := n1_
                    have HO_10 := n2_
                    have HO543 := n3_
                    have HO546 := n4_
                    have HB := n5_
                    clear n0_ n1_ n2_ n3_ n4_ n5_
                    (try clear hb)
                    (try clear hb2)
                    (try clear hk)
                    (try clear hi)
                    (try clear ho0)
                    refine hK.out _ _ (HS0_) (fun hHeld => ?_)
                    clear hK K
                    refine ns_ 71 ?_
                    refine one_ (i := 7) (N := some 76) (ba_ 10 255) rfl rfl (vv HT_.out kr_) (by decide) (fun K hK => ?_)
                    refine Kd.qj (Kd.int .u64) _ 22 ?hg (N := 76) ?hd (xs := ([rd t526 x11_4] : List Int)) (inner := [.int .u64 (rd t526 x11_4)]) (ok := fun _ => True) (okp := fun _ => True) ?hr ?hp (fun _ hk => hk) trivial (Below.refl _ _) (Nat.le_refl _) (by simp) ?_; (case hd => rfl); (case hg => rfl); (case hr => exact gs_); (case hp => exact (Reps.one (show Kd.M (Kd.int .u64) _ _ _ (rd t526 x11_4) [.int .u64 (rd t526 x11_4)] from rfl) (Reps.none _ _)))
                    intro v549 w72 ho73 hb hg_ hnew_
                    have HS0_ := (hb.cell (World.block_lt_of_cell? _ _ (hHeld))).trans (hHeld)
                    clear hg_ hnew_
                    (first | rw [← Ny548.out] at ho73 | (simp only [Int.reduceToNat] at ho73; rw [← Ny548.out] at ho73))
                    have n0_ := re_ HO_7 ho73 hb
                    have n1_ := re_ HO_8 ho73 hb
                    have n2_ := re_ HO_10 ho73 hb
                    have n3_ := re_ HO543 ho73 hb
                    have n4_ := re_ HO546 ho73 hb
                    have n5_ := jA.mk (Kd.jN (Kd.jL (Kd.jL (Kd.jL (Kd.jL (Kd.jL ho73 (Kd.R_lt (rR_ HO_7))) (Kd.R_lt (rR_ HO_8))) (Kd.R_lt (rR_ HO_10))) (Kd.R_lt (rR_ HO543))) (Kd.R_lt (rR_ HO546))) (jC (bb_ HB)))
                    have n6_ := bs_ HB hb
                    clear HO_7
                    clear HO_8
                    clear HO_10
                    clear HO543
                    clear HO546
                    clear HB
                    have HO_7 := n0_
                    have HO_8 := n1_
                    have HO_10 := n2_
                    have HO543 := n3_
                    have HO546 := n4_
                    have HO550 := n5_
                    have HB := n6_
                    clear n0_ n1_ n2_ n3_ n4_ n5_ n6_
                    clear hb ho73
                    refine hK.out _ _ (HS0_) (fun hHeld => ?_)
                    clear hK K
                    refine ns_ 76 ?_
                    exact jCp (by simp only [jBM, Act.put, ss_]) (hCont (.slice Ao70 y541.length co70, v545, v549) _ ⟨hHeld, (by refine pR_ ?_; exact Kd.jT HO543.out (fun _ hk => ⟨hk.1.2, ⟨hk.2, ⟨hk.1.1.2, ⟨hk.1.1.1.1.2, hk.1.1.1.2⟩⟩⟩⟩)), (by refine pR_ ?_; exact Kd.jT HO546.out (fun _ hk => ⟨hk.1.2, ⟨hk.2, ⟨hk.1.1.2, ⟨hk.1.1.1.1.2, hk.1.1.1.2⟩⟩⟩⟩)), (by refine pR_ ?_; exact Kd.jT HO550.out (fun _ hk => ⟨hk.1.2, ⟨hk.2, ⟨hk.1.1.2, ⟨hk.1.1.1.1.2, hk.1.1.1.2⟩⟩⟩⟩)), (by refine pR_ ?_; exact Kd.jT HO_10.out (fun _ hk => ⟨hk.1.1.2, ⟨hk.1.2, ⟨hk.2, ⟨hk.1.1.1.1, hk.1.1.1.2⟩⟩⟩⟩)), (by refine pR_ ?_; exact Kd.jT HO_7.out (fun _ hk => ⟨hk.1.1.2, ⟨hk.1.2, ⟨hk.2, ⟨hk.1.1.1.2, hk.1.1.1.1⟩⟩⟩⟩)), (by refine pR_ ?_; exact Kd.jT HO_8.out (fun _ hk => ⟨hk.1.1.2, ⟨hk.1.2, ⟨hk.2, ⟨hk.1.1.1.2, hk.1.1.1.1⟩⟩⟩⟩)), (bb_ HB)⟩)
                   ·
                    skip
                    refine Kd.qj (Kd.int .u64) _ 22 ?hg (N := 76) ?hd (xs := ([rd t526 x11_4] : List Int)) (inner := [.int .u64 (rd t526 x11_4)]) (ok := fun _ => True) (okp := fun _ => True) ?hr ?hp (fun _ hk => hk) trivial (Below.refl _ _) (Nat.le_refl _) (by simp) ?_; (case hd => rfl); (case hg => rfl); (case hr => exact gs_); (case hp => exact (Reps.one (show Kd.M (Kd.int .u64) _ _ _ (rd t526 x11_4) [.int .u64 (rd t526 x11_4)] from rfl) (Reps.none _ _)))
                    intro v549 w70 ho71 hb hg_ hnew_
                    have HS0_ := (hb.cell (World.block_lt_of_cell? _ _ (hHeld))).trans (hHeld)
                    clear hg_ hnew_
                    (first | rw [← Ny548.out] at ho71 | (simp only [Int.reduceToNat] at ho71; rw [← Ny548.out] at ho71))
                    have n0_ := re_ HO_7 ho71 hb
                    have n1_ := re_ HO_8 ho71 hb
                    have n2_ := re_ HO_10 ho71 hb
                    have n3_ := re_ HO543 ho71 hb
                    have n4_ := jA.mk (Kd.jN (Kd.jL (Kd.jL (Kd.jL (Kd.jL ho71 (Kd.R_lt (rR_ HO_7))) (Kd.R_lt (rR_ HO_8))) (Kd.R_lt (rR_ HO_10))) (Kd.R_lt (rR_ HO543))) (jC (bb_ HB)))
                    have n5_ := bs_ HB hb
                    clear HO_7
                    clear HO_8
                    clear HO_10
                    clear HO543
                    clear HB
                    have HO_7 := n0_
                    have HO_8 := n1_
                    have HO_10 := n2_
                    have HO543 := n3_
                    have HO550 := n4_
                    have HB := n5_
                    clear n0_ n1_ n2_ n3_ n4_ n5_
                    clear hb ho71
                    obtain ⟨Ao72, co72, eo72⟩ := Kd.jV HO543.out
                    (first | subst eo72 | (injection eo72 with f1_ f2_ f3_; have f4_ := f1_.symm; have f5_ := f3_.symm; clear f1_ f2_ f3_; subst f4_; subst f5_))
                    refine hK.out _ _ (HS0_) (fun hHeld => ?_)
                    clear hK K
                    refine ns_ 76 ?_
                    refine one_ (i := 2) (N := some 71) (ba_ 10 255) rfl rfl (vv HT_.out kr_) (by decide) (fun K hK => ?_)
                    refine jAQ Try.func23 kr_ rfl #[.slice Ao66 x10_4.length co66, .slice Ao72 y541.length co72] (by rfl) rfl rfl (by (try simp only [List.map_toArray, List.map_cons, List.map_nil]); first | done | rfl | (simp only [List.length_drop, List.length_take]; rfl)) ?_
                    with_reducible refine (jF.calls k4 _ _ x10_4 _ _ y541 t544 _ ?side1 ?side2 ?side3 ?side4 A32.out).mono ?_
                    (case side1 => exact cc_ (Kd.jE HO_10.out).2.2)
                    (case side2 => exact (Kd.jE HO_10.out).2.1)
                    (case side3 => exact cc_ (Kd.jE HO543.out).2.2)
                    (case side4 => exact (Kd.jE HO543.out).2.1)
                    rintro e w73 ⟨v545, rfl, ho0, hb⟩
                    have HS0_ := (hb.cell (World.block_lt_of_cell? _ _ (hHeld))).trans (hHeld)
                    refine ⟨_, rfl, ?_⟩
                    have n0_ := re_ HO_7 ho0 hb
                    have n1_ := re_ HO_8 ho0 hb
                    have n2_ := re_ HO_10 ho0 hb
                    have n3_ := re_ HO543 ho0 hb
                    have n4_ := re_ HO550 ho0 hb
                    have n5_ := jA.mk (Kd.jN (Kd.jL (Kd.jL (Kd.jL (Kd.jL (Kd.jL ho0 (Kd.R_lt (rR_ HO_7))) (Kd.R_lt (rR_ HO_8))) (Kd.R_lt (rR_ HO_10))) (Kd.R_lt (rR_ HO543))) (Kd.R_lt (rR_ HO550))) (jC (bb_ HB)))
                    have n6_ := bs_ HB hb
                    clear HO_7
                    clear HO_8
                    clear HO_10
                    clear HO543
                    clear HO550
                    clear HB
                    have HO_7 := n0_
                    have HO_8 := n1_
                    have HO_10 := n2_
                    have HO543 := n3_
                    have HO550 := n4_
                    have HO546 := n5_
                    have HB := n6_
                    clear n0_ n1_ n2_ n3_ n4_ n5_ n6_
                    (try clear hb)
                    (try clear hb2)
                    (try clear hk)
                    (try clear hi)
                    (try clear ho0)
                    refine hK.out _ _ (HS0_) (fun hHeld => ?_)
                    clear hK K
                    refine ns_ 71 ?_
                    exact jCp (by simp only [jBM, Act.put, ss_]) (hCont (.slice Ao72 y541.length co72, v545, v549) _ ⟨hHeld, (by refine pR_ ?_; exact Kd.jT HO543.out (fun _ hk => ⟨hk.2, ⟨hk.1.2, ⟨hk.1.1.2, ⟨hk.1.1.1.1.2, hk.1.1.1.2⟩⟩⟩⟩)), (by refine pR_ ?_; exact Kd.jT HO546.out (fun _ hk => ⟨hk.1.2, ⟨hk.2, ⟨hk.1.1.2, ⟨hk.1.1.1.1.2, hk.1.1.1.2⟩⟩⟩⟩)), (by refine pR_ ?_; exact Kd.jT HO550.out (fun _ hk => ⟨hk.1.2, ⟨hk.2, ⟨hk.1.1.2, ⟨hk.1.1.1.1.2, hk.1.1.1.2⟩⟩⟩⟩)), (by refine pR_ ?_; exact Kd.jT HO_10.out (fun _ hk => ⟨hk.1.1.2, ⟨hk.2, ⟨hk.1.2, ⟨hk.1.1.1.1, hk.1.1.1.2⟩⟩⟩⟩)), (by refine pR_ ?_; exact Kd.jT HO_7.out (fun _ hk => ⟨hk.1.1.2, ⟨hk.2, ⟨hk.1.2, ⟨hk.1.1.1.2, hk.1.1.1.1⟩⟩⟩⟩)), (by refine pR_ ?_; exact Kd.jT HO_8.out (fun _ hk => ⟨hk.1.1.2, ⟨hk.2, ⟨hk.1.2, ⟨hk.1.1.1.2, hk.1.1.1.1⟩⟩⟩⟩)), (bb_ HB)⟩)
                  ·
                   skip
                   refine Kd.qj (Kd.int .u64) _ 22 ?hg (N := 76) ?hd (xs := ([rd t526 x11_4] : List Int)) (inner := [.int .u64 (rd t526 x11_4)]) (ok := fun _ => True) (okp := fun _ => True) ?hr ?hp (fun _ hk => hk) trivial (Below.refl _ _) (Nat.le_refl _) (by simp) ?_; (case hd => rfl); (case hg => rfl); (case hr => exact gs_); (case hp => exact (Reps.one (show Kd.M (Kd.int .u64) _ _ _ (rd t526 x11_4) [.int .u64 (rd t526 x11_4)] from rfl) (Reps.none _ _)))
                   intro v549 w68 ho69 hb hg_ hnew_
                   have HS0_ := (hb.cell (World.block_lt_of_cell? _ _ (hHeld))).trans (hHeld)
                   clear hg_ hnew_
                   (first | rw [← Ny548.out] at ho69 | (simp only [Int.reduceToNat] at ho69; rw [← Ny548.out] at ho69))
                   have n0_ := re_ HO_7 ho69 hb
                   have n1_ := re_ HO_8 ho69 hb
                   have n2_ := re_ HO_10 ho69 hb
                   have n3_ := jA.mk (Kd.jN (Kd.jL (Kd.jL (Kd.jL ho69 (Kd.R_lt (rR_ HO_7))) (Kd.R_lt (rR_ HO_8))) (Kd.R_lt (rR_ HO_10))) (jC (bb_ HB)))
                   have n4_ := bs_ HB hb
                   clear HO_7
                   clear HO_8
                   clear HO_10
                   clear HB
                   have HO_7 := n0_
                   have HO_8 := n1_
                   have HO_10 := n2_
                   have HO550 := n3_
                   have HB := n4_
                   clear n0_ n1_ n2_ n3_ n4_
                   clear hb ho69
                   refine hK.out _ _ (HS0_) (fun hHeld => ?_)
                   clear hK K
                   refine ns_ 76 ?_
                   refine one_ (i := 1) (N := some 70) (ba_ 10 251) rfl rfl (vv HT_.out kr_) (by decide) (fun K hK => ?_)
                   refine Kd.qj (Kd.int .u64) _ 22 ?hg (N := 70) ?hd (xs := ([4294967296] : List Int)) (inner := [.int .u64 4294967296]) (ok := fun _ => True) (okp := fun _ => True) ?hr ?hp (fun _ hk => hk) trivial (Below.refl _ _) (Nat.le_refl _) (by simp) ?_; (case hd => rfl); (case hg => rfl); (case hr => exact gs_); (case hp => exact (Reps.one (show Kd.M (Kd.int .u64) _ _ _ 4294967296 [.int .u64 4294967296] from rfl) (Reps.none _ _)))
                   intro v542 w70 ho71 hb hg_ hnew_
                   have HS0_ := (hb.cell (World.block_lt_of_cell? _ _ (hHeld))).trans (hHeld)
                   clear hg_ hnew_
                   (first | rw [← Ny541.out] at ho71 | (simp only [Int.reduceToNat] at ho71; rw [← Ny541.out] at ho71))
                   have n0_ := re_ HO_7 ho71 hb
                   have n1_ := re_ HO_8 ho71 hb
                   have n2_ := re_ HO_10 ho71 hb
                   have n3_ := re_ HO550 ho71 hb
                   have n4_ := jA.mk (Kd.jN (Kd.jL (Kd.jL (Kd.jL (Kd.jL ho71 (Kd.R_lt (rR_ HO_7))) (Kd.R_lt (rR_ HO_8))) (Kd.R_lt (rR_ HO_10))) (Kd.R_lt (rR_ HO550))) (jC (bb_ HB)))
                   have n5_ := bs_ HB hb
                   clear HO_7
                   clear HO_8
                   clear HO_10
                   clear HO550
                   clear HB
                   have HO_7 := n0_
                   have HO_8 := n1_
                   have HO_10 := n2_
                   have HO550 := n3_
                   have HO543 := n4_
                   have HB := n5_
                   clear n0_ n1_ n2_ n3_ n4_ n5_
                   clear hb ho71
                   obtain ⟨Ao72, co72, eo72⟩ := Kd.jV HO543.out
                   (first | subst eo72 | (injection eo72 with f1_ f2_ f3_; have f4_ := f1_.symm; have f5_ := f3_.symm; clear f1_ f2_ f3_; subst f4_; subst f5_))
                   refine hK.out _ _ (HS0_) (fun hHeld => ?_)
                   clear hK K
                   refine ns_ 70 ?_
                   refine one_ (i := 2) (N := some 71) (ba_ 10 255) rfl rfl (vv HT_.out kr_) (by decide) (fun K hK => ?_)
                   refine jAQ Try.func23 kr_ rfl #[.slice Ao66 x10_4.length co66, .slice Ao72 y541.length co72] (by rfl) rfl rfl (by (try simp only [List.map_toArray, List.map_cons, List.map_nil]); first | done | rfl | (simp only [List.length_drop, List.length_take]; rfl)) ?_
                   with_reducible refine (jF.calls k4 _ _ x10_4 _ _ y541 t544 _ ?side1 ?side2 ?side3 ?side4 A32.out).mono ?_
                   (case side1 => exact cc_ (Kd.jE HO_10.out).2.2)
                   (case side2 => exact (Kd.jE HO_10.out).2.1)
                   (case side3 => exact cc_ (Kd.jE HO543.out).2.2)
                   (case side4 => exact (Kd.jE HO543.out).2.1)
                   rintro e w73 ⟨v545, rfl, ho0, hb⟩
                   have HS0_ := (hb.cell (World.block_lt_of_cell? _ _ (hHeld))).trans (hHeld)
                   refine ⟨_, rfl, ?_⟩
                   have n0_ := re_ HO_7 ho0 hb
                   have n1_ := re_ HO_8 ho0 hb
                   have n2_ := re_ HO_10 ho0 hb
                   have n3_ := re_ HO550 ho0 hb
                   have n4_ := re_ HO543 ho0 hb
                   have n5_ := jA.mk (Kd.jN (Kd.jL (Kd.jL (Kd.jL (Kd.jL (Kd.jL ho0 (Kd.R_lt (rR_ HO_7))) (Kd.R_lt (rR_ HO_8))) (Kd.R_lt (rR_ HO_10))) (Kd.R_lt (rR_ HO550))) (Kd.R_lt (rR_ HO543))) (jC (bb_ HB)))
                   have n6_ := bs_ HB hb
                   clear HO_7
                   clear HO_8
                   clear HO_10
                   clear HO550
                   clear HO543
                   clear HB
                   have HO_7 := n0_
                   have HO_8 := n1_
                   have HO_10 := n2_
                   have HO550 := n3_
                   have HO543 := n4_
                   have HO546 := n5_
                   have HB := n6_
                   clear n0_ n1_ n2_ n3_ n4_ n5_ n6_
                   (try clear hb)
                   (try clear hb2)
                   (try clear hk)
                   (try clear hi)
                   (try clear ho0)
                   refine hK.out _ _ (HS0_) (fun hHeld => ?_)
                   clear hK K
                   refine ns_ 71 ?_
                   exact jCp (by simp only [jBM, Act.put, ss_]) (hCont (.slice Ao72 y541.length co72, v545, v549) _ ⟨hHeld, (by refine pR_ ?_; exact Kd.jT HO543.out (fun _ hk => ⟨hk.2, ⟨hk.1.2, ⟨hk.1.1.2, ⟨hk.1.1.1.1.2, hk.1.1.1.2⟩⟩⟩⟩)), (by refine pR_ ?_; exact Kd.jT HO546.out (fun _ hk => ⟨hk.2, ⟨hk.1.2, ⟨hk.1.1.2, ⟨hk.1.1.1.1.2, hk.1.1.1.2⟩⟩⟩⟩)), (by refine pR_ ?_; exact Kd.jT HO550.out (fun _ hk => ⟨hk.1.2, ⟨hk.2, ⟨hk.1.1.2, ⟨hk.1.1.1.1.2, hk.1.1.1.2⟩⟩⟩⟩)), (by refine pR_ ?_; exact Kd.jT HO_10.out (fun _ hk => ⟨hk.1.2, ⟨hk.2, ⟨hk.1.1.2, ⟨hk.1.1.1.1, hk.1.1.1.2⟩⟩⟩⟩)), (by refine pR_ ?_; exact Kd.jT HO_7.out (fun _ hk => ⟨hk.1.2, ⟨hk.2, ⟨hk.1.1.2, ⟨hk.1.1.1.2, hk.1.1.1.1⟩⟩⟩⟩)), (by refine pR_ ?_; exact Kd.jT HO_8.out (fun _ hk => ⟨hk.1.2, ⟨hk.2, ⟨hk.1.1.2, ⟨hk.1.1.1.2, hk.1.1.1.1⟩⟩⟩⟩)), (bb_ HB)⟩)
                 rintro ⟨v542, v545, v549⟩ w74 ⟨hS_, h0_, h1_, h2_, h3_, h4_, h5_, h6_⟩
                 have n0_ : jA (Kd.R (Kd.int .u64) 22 w74 w.heap.size (fun k_ => some k_ ≠ (v545 : Value).ownBlock ∧ some k_ ≠ (v549 : Value).ownBlock ∧ some k_ ≠ (.slice Ao66 x10_4.length co66 : Value).ownBlock ∧ some k_ ≠ (.slice (some ad547) t526.length co28 : Value).ownBlock ∧ some k_ ≠ (u8 : Value).ownBlock) v542 y541) := ⟨h0_⟩
                 have n1_ : jA (Kd.R (Kd.int .u64) 22 w74 w.heap.size (fun k_ => some k_ ≠ (v542 : Value).ownBlock ∧ some k_ ≠ (v549 : Value).ownBlock ∧ some k_ ≠ (.slice Ao66 x10_4.length co66 : Value).ownBlock ∧ some k_ ≠ (.slice (some ad547) t526.length co28 : Value).ownBlock ∧ some k_ ≠ (u8 : Value).ownBlock) v545 t544) := ⟨h1_⟩
                 have n2_ : jA (Kd.R (Kd.int .u64) 22 w74 w.heap.size (fun k_ => some k_ ≠ (v542 : Value).ownBlock ∧ some k_ ≠ (v545 : Value).ownBlock ∧ some k_ ≠ (.slice Ao66 x10_4.length co66 : Value).ownBlock ∧ some k_ ≠ (.slice (some ad547) t526.length co28 : Value).ownBlock ∧ some k_ ≠ (u8 : Value).ownBlock) v549 y548) := ⟨h2_⟩
                 have n3_ : jA (Kd.R (Kd.int .u64) 22 w74 w.heap.size (fun k_ => some k_ ≠ (v542 : Value).ownBlock ∧ some k_ ≠ (v545 : Value).ownBlock ∧ some k_ ≠ (v549 : Value).ownBlock ∧ some k_ ≠ (.slice (some ad547) t526.length co28 : Value).ownBlock ∧ some k_ ≠ (u8 : Value).ownBlock) (.slice Ao66 x10_4.length co66) x10_4) := ⟨h3_⟩
                 have n4_ : jA (Kd.R (Kd.int .u64) 22 w74 w.heap.size (fun k_ => some k_ ≠ (v542 : Value).ownBlock ∧ some k_ ≠ (v545 : Value).ownBlock ∧ some k_ ≠ (v549 : Value).ownBlock ∧ some k_ ≠ (.slice Ao66 x10_4.length co66 : Value).ownBlock ∧ some k_ ≠ (u8 : Value).ownBlock) (.slice (some ad547) t526.length co28) t526) := ⟨h4_⟩
                 have n5_ : jA (Kd.R (Kd.int .u64) 22 w74 w.heap.size (fun k_ => some k_ ≠ (v542 : Value).ownBlock ∧ some k_ ≠ (v545 : Value).ownBlock ∧ some k_ ≠ (v549 : Value).ownBlock ∧ some k_ ≠ (.slice Ao66 x10_4.length co66 : Value).ownBlock ∧ some k_ ≠ (.slice (some ad547) t526.length co28 : Value).ownBlock) u8 x8_4) := ⟨h5_⟩
                 have n6_ : jA (Below w.heap.size w w74) := ⟨h6_⟩
                 clear HO_7
                 clear HO_8
                 clear HO_10
                 clear HB
                 clear h0_ h1_ h2_ h3_ h4_ h5_ h6_
                 have HO543 := n0_
                 have HO546 := n1_
                 have HO550 := n2_
                 have HO_10 := n3_
                 have HO_7 := n4_
                 have HO_8 := n5_
                 have HB := n6_
                 clear n0_ n1_ n2_ n3_ n4_ n5_ n6_
                 have hHeld : w74.cell? (ad547.add (x11_4).toNat) = some (.int .u64 (rd t526 x11_4)) := hS_
                 obtain ⟨Ao75, co75, eo75⟩ := Kd.jV HO546.out
                 (first | subst eo75 | (injection eo75 with f1_ f2_ f3_; have f4_ := f1_.symm; have f5_ := f3_.symm; clear f1_ f2_ f3_; subst f4_; subst f5_))
                 obtain ⟨Ao76, co76, eo76⟩ := Kd.jV HO550.out
                 (first | subst eo76 | (injection eo76 with f1_ f2_ f3_; have f4_ := f1_.symm; have f5_ := f3_.symm; clear f1_ f2_ f3_; subst f4_; subst f5_))
                 refine jCp (a' := ?_) ?_ ?_
                 rotate_left
                 ·
                  simp only [jBM, Act.put, ss_]
                  rfl
                 refine one_ (i := 8) (N := some 77) (ba_ 10 511) rfl rfl (vv HT_.out kr_) (by decide) (fun K hK => ?_)
                 refine jAQ Try.func102 kr_ rfl #[.slice Ao75 t544.length co75, .slice Ao76 y548.length co76] (by rfl) rfl rfl (by (try simp only [List.map_toArray, List.map_cons, List.map_nil]); first | done | rfl | (simp only [List.length_drop, List.length_take]; rfl)) ?_
                 with_reducible refine (jO.calls k4 _ _ t544 _ _ y548 t551 _ ?side1 ?side2 ?side3 ?side4 A35.out).mono ?_
                 (case side1 => exact cc_ (Kd.jE HO546.out).2.2)
                 (case side2 => exact (Kd.jE HO546.out).2.1)
                 (case side3 => exact cc_ (Kd.jE HO550.out).2.2)
                 (case side4 => exact (Kd.jE HO550.out).2.1)
                 rintro e w77 ⟨v552, rfl, ho0, hb⟩
                 have HS0_ := (hb.cell (World.block_lt_of_cell? _ _ (hHeld))).trans (hHeld)
                 refine ⟨_, rfl, ?_⟩
                 have n0_ := re_ HO_7 ho0 hb
                 have n1_ := re_ HO_8 ho0 hb
                 have n2_ := re_ HO_10 ho0 hb
                 have n3_ := re_ HO543 ho0 hb
                 have n4_ := re_ HO546 ho0 hb
                 have n5_ := re_ HO550 ho0 hb
                 have n6_ := jA.mk (Kd.jN (Kd.jL (Kd.jL (Kd.jL (Kd.jL (Kd.jL (Kd.jL ho0 (Kd.R_lt (rR_ HO_7))) (Kd.R_lt (rR_ HO_8))) (Kd.R_lt (rR_ HO_10))) (Kd.R_lt (rR_ HO543))) (Kd.R_lt (rR_ HO546))) (Kd.R_lt (rR_ HO550))) (jC (bb_ HB)))
                 have n7_ := bs_ HB hb
                 clear HO_7
                 clear HO_8
                 clear HO_10
                 clear HO543
                 clear HO546
                 clear HO550
                 clear HB
                 have HO_7 := n0_
                 have HO_8 := n1_
                 have HO_10 := n2_
                 have HO543 := n3_
                 have HO546 := n4_
                 have HO550 := n5_
                 have HO553 := n6_
                 have HB := n7_
                 clear n0_ n1_ n2_ n3_ n4_ n5_ n6_ n7_
                 (try clear hb)
                 (try clear hb2)
                 (try clear hk)
                 (try clear hi)
                 (try clear ho0)
                 refine hK.out _ _ (HS0_) (fun hHeld => ?_)
                 clear hK K
                 refine ns_ 77 ?_
                 refine pu_ 9 (some 10) (ba_ 10 1023) (jd HT_.out kr_) ?_
                 refine jAv (jAn HT_.out kr_) ?_
                 obtain ⟨Ao78, co78, eo78⟩ := Kd.jV HO553.out
                 subst eo78
                 try go_wp2_with (first | ((with_reducible refine jH (f := 103) rfl ?_); refine gl_ (some 80) Try.func103 #[.slice Ao78 t551.length co78, .slice A1 l1.length c1] ?_; (with_reducible refine (jR.calls k4 _ _ t551 _ _ l1 t554 _ ?side1 ?side2 ?side3 ?side4 A36.out).mono ?_); (case side1 => exact cc_ (Kd.jE HO553.out).2.2); (case side2 => exact (Kd.jE HO553.out).2.1); (case side3 => exact cb_ HR1 HB); (case side4 => exact HC1.out); rintro e w79 ⟨rfl, hb⟩; refine ⟨_, rfl, ?_⟩; replace HO_7 := ro_ HO_7 hb; replace HO_8 := ro_ HO_8 hb; replace HO_10 := ro_ HO_10 hb; replace HO543 := ro_ HO543 hb; replace HO546 := ro_ HO546 hb; replace HO550 := ro_ HO550 hb; replace HO553 := ro_ HO553 hb; replace HB := bs_ HB hb))
                 go_roundg k4
                 case measure => have := HJ2.out; have := HJ8.out; have := HK3.out; have := HK4.out; omega
                 case rel => exact ⟨(x8_4), (t551), (wrap64 (x11_4 - 1)), sd_, H', ⟨by have := HJ2.out; have := HJ8.out; have := HK3.out; have := HK4.out; omega⟩, ⟨by (with_reducible repeat (first | apply Kd.zM | apply Kd.zT | apply Kd.zZ)); exact Kd.jT HO_7.out (fun _ hk => ⟨hk.1.2.2.2.2, hk.2⟩)⟩, ⟨by (with_reducible repeat (first | apply Kd.zM | apply Kd.zT | apply Kd.zZ)); exact Kd.jT HO_8.out (fun _ hk => ⟨hk.1.2.2.2.2, hk.2⟩)⟩, ⟨by (with_reducible repeat (first | apply Kd.zM | apply Kd.zT | apply Kd.zZ)); exact Kd.jT HO553.out (fun _ hk => ⟨hk.1.1.1.1.1.2, hk.1.1.1.1.2⟩)⟩, ⟨(bb_ HB)⟩⟩
               ·
                rw [if_neg c34] at H
                exact absurd H (by simp)
              ·
               rw [if_neg c33] at H
               exact absurd H (by simp)
             ·
              rw [if_neg c31] at H
              have c31b0 := decide_eq_false c31
              clear c31
              obtain ⟨t538, A80, H⟩ := oc_ H
              try dsimp only at H
              simp only [Option.some.injEq, Prod.mk.injEq] at H
              obtain ⟨rfl, rfl, rfl⟩ := H
              obtain ⟨Ao81, co81, eo81⟩ := Kd.jV HO_8.out
              subst eo81
              go_wp2_with (first | ((with_reducible refine jH (f := 70) rfl ?_); refine gl_ (some 102) Try.func70 #[.slice Ao81 x8_4.length co81] ?_; (with_reducible refine (jM.calls k4 _ _ x8_4 t538 _ ?side1 ?side2 A80.out).mono ?_); (case side1 => exact cc_ (Kd.jE HO_8.out).2.2); (case side2 => exact (Kd.jE HO_8.out).2.1); rintro e w82 ⟨v539, rfl, ho0, hb⟩; refine ⟨_, rfl, ?_⟩; have HO540 := jA.mk (Kd.jN (Kd.jL (Kd.jL (Kd.jL ho0 (Kd.R_lt (rR_ HO_7))) (Kd.R_lt (rR_ HO_8))) (Kd.R_lt (rR_ HO_10))) (jC (bb_ HB))); replace HO_7 := re_ HO_7 ho0 hb; replace HO_8 := re_ HO_8 ho0 hb; replace HO_10 := re_ HO_10 ho0 hb; replace HB := bs_ HB hb))
              go_ret3
              exact ⟨_, _, ew_, by refine pR_ ?_; exact Kd.jT HO540.out (fun _ hk => hk.2), by refine pR_ ?_; exact Kd.jT HO_10.out (fun _ hk => hk.2), (bb_ HB)⟩
end Go.Proofs.Ytijgeonhbmgikaa.PORatioField
