-- printed (pr.py)
import Derived.Test.YtijgeonhbmgikaaPORatioMakesx13
namespace Go.Proofs.Ytijgeonhbmgikaa.PORatioMakes
open Go.RowKit Go.Proofs.YtijgeonhbmgikaaN Go.Proofs.YtijgeonhbmgikaaW.PrintWords Go.Proofs.YtijgeonhbmgikaaW.PrintLast Go.Proofs.YtijgeonhbmgikaaW.PrintMore
attribute [local go_sem] qJ qH qd qc zo zn qI qG
set_option maxHeartbeats 8000000
set_option maxRecDepth 100000
set_option linter.unusedVariables false
set_option linter.unusedSimpArgs false
mutual
def jE.j0 : Nat → List Int → List Int → Bool → Option (List Int × List Int × Int)
 | 0, _, _, _ => none
 | k + 1, x0, x1, x21 => if x21 = true then (some (([] : List Int), ([] : List Int), 1)) else (if (x1.length : Int) = 0 then (some (([] : List Int), ([] : List Int), 30)) else (if (x0.length : Int) = 1 then (jE.j1 k x0 x1 ((x1.length : Int) == 1)) else (jE.j1 k x0 x1 false)))
def jE.j1 : Nat → List Int → List Int → Bool → Option (List Int × List Int × Int)
 | 0, _, _, _ => none
 | k + 1, x0, x1, x32 => if x32 = true then (if 0 < (x0.length : Int) then (if 0 < (x1.length : Int) then (if (rd x1 0) = 0 then (none) else ((vY.f k (IntKind.u64.wrap (Int.tdiv (rd x0 0) (rd x1 0)))).bind fun t519 => ((vY.f k (Int.tmod (rd x0 0) (rd x1 0))).bind fun t524 => (some (t519, t524, 0))))) else (none)) else (none)) else ((jH.f k x0).bind fun t527 => (jE.l0 k x1 t527 (([] : List Int)) 0))
def jE.l0 : Nat → List Int → List Int → List Int → Int → Option (List Int × List Int × Int)
 | 0, _, _, _, _ => none
 | k + 1, x1, x7, x8, x9 => if x9 < (x7.length : Int) then (if x8.length < 17592186044416 then (jE.l0 k x1 x7 (x8 ++ [0]) (wrap64 (x9 + 1))) else (none)) else (jE.l1 k x1 x7 x8 (([] : List Int)) (wrap64 ((x7.length : Int) - 1)))
def jE.l1 : Nat → List Int → List Int → List Int → List Int → Int → Option (List Int × List Int × Int)
 | 0, _, _, _, _, _ => none
 | k + 1, x1, x7, x8, x10, x11 => if x11 ≥ 0 then ((jF.f k x10 (([4294967296] : List Int))).bind fun t545 => (if 0 ≤ x11 then (if x11 < (x7.length : Int) then ((jQ.f k t545 (([rd x7 x11] : List Int))).bind fun t552 => ((jU.f k t552 x1).bind fun t555 => (if t555 ≥ 0 then ((jf.f k t552 x1).bind fun t556 => (if x11 < (x8.length : Int) then ((some (x8.set (x11 : Int).toNat t556 : List Int)).bind fun y557 => ((jF.f k x1 (([rd y557 x11] : List Int))).bind fun t562 => ((jZ.f k t552 t562).bind fun bt565 => (jE.l1 k x1 x7 y557 bt565.1 (wrap64 (x11 - 1)))))) else (none))) else (jE.l1 k x1 x7 x8 t552 (wrap64 (x11 - 1)))))) else (none)) else (none))) else ((jN.f k x8).bind fun t539 => (some (t539, x10, 0)))
end
def jE.f (k : Nat) (l0 : List Int) (l1 : List Int) : Option (List Int × List Int × Int) := (jk.f l0).bind fun t515 => (if t515 = true then ((jk.f l1).bind fun t516 => (jE.j0 k l0 l1 (!t516))) else (jE.j0 k l0 l1 true))
theorem jE.vQ : ∀ k, (∀ y0 y1 y2, LeO (jE.j0 k y0 y1 y2) (jE.j0 (k + 1) y0 y1 y2)) ∧ (∀ y0 y1 y2, LeO (jE.j1 k y0 y1 y2) (jE.j1 (k + 1) y0 y1 y2)) ∧ (∀ y0 y1 y2 y3, LeO (jE.l0 k y0 y1 y2 y3) (jE.l0 (k + 1) y0 y1 y2 y3)) ∧ (∀ y0 y1 y2 y3 y4, LeO (jE.l1 k y0 y1 y2 y3 y4) (jE.l1 (k + 1) y0 y1 y2 y3 y4))
 | 0 => ⟨fun _ _ _ r h => by simp [jE.j0] at h, fun _ _ _ r h => by simp [jE.j1] at h, fun _ _ _ _ r h => by simp [jE.l0] at h, fun _ _ _ _ _ r h => by simp [jE.l1] at h⟩
 | k + 1 => by
  obtain ⟨ih0, ih1, ih2, ih3⟩ := jE.vQ k
  refine ⟨?_, ?_, ?_, ?_⟩ <;> (intros; first | unfold jE.j0 | unfold jE.j1 | unfold jE.l0 | unfold jE.l1) <;> repeat' first
   | (with_reducible exact ih0 _ _ _)
   | (with_reducible exact ih1 _ _ _)
   | (with_reducible exact ih2 _ _ _ _)
   | (with_reducible exact ih3 _ _ _ _ _)
   | (with_reducible exact jQ.mono _ _ _)
   | (with_reducible exact jU.mono _ _ _)
   | (with_reducible exact jH.mono _ _)
   | (with_reducible exact jF.mono _ _ _)
   | (with_reducible exact jZ.mono _ _ _)
   | (with_reducible exact jN.mono _ _)
   | (with_reducible exact vY.mono _ _)
   | (with_reducible exact jf.mono _ _ _)
   | (with_reducible exact LeO.refl _)
   | (with_reducible exact LeO.none _)
   | (with_reducible refine LeO.ite ?_ ?_)
   | (with_reducible refine LeO.bind ?_ (fun _ => ?_))
theorem jE.mono : ∀ a0 a1 k, LeO (jE.f k a0 a1) (jE.f (k + 1) a0 a1) := by
 intro a0 a1 k
 obtain ⟨ih0, ih1, ih2, ih3⟩ := jE.vQ k
 unfold jE.f
 repeat' first
   | (with_reducible exact ih0 _ _ _)
   | (with_reducible exact ih1 _ _ _)
   | (with_reducible exact ih2 _ _ _ _)
   | (with_reducible exact ih3 _ _ _ _ _)
   | (with_reducible exact jQ.mono _ _ _)
   | (with_reducible exact jU.mono _ _ _)
   | (with_reducible exact jH.mono _ _)
   | (with_reducible exact jF.mono _ _ _)
   | (with_reducible exact jZ.mono _ _ _)
   | (with_reducible exact jN.mono _ _)
   | (with_reducible exact vY.mono _ _)
   | (with_reducible exact jf.mono _ _ _)
   | (with_reducible exact LeO.refl _)
   | (with_reducible exact LeO.none _)
   | (with_reducible refine LeO.ite ?_ ?_)
   | (with_reducible refine LeO.bind ?_ (fun _ => ?_))
def jE.T6 : Bool × List (List Nat × List Nat) := (true, [([], []), ([0], [0]), ([1], [1]), ([], []), ([3], [3]), ([4], [4]), ([2, 5], [2, 5]), ([6], [6]), ([], []), ([8], [8]), ([9], [9]), ([], []), ([11], [11]), ([12], [12]), ([10, 13], [10, 13]), ([14, 7], [14]), ([7, 15, 0, 1, 2, 3, 4, 5, 6, 7], [7]), ([15, 16, 0, 1, 2, 3, 4, 5, 6, 7, 8, 9, 10, 11, 12, 13, 14, 15, 16], [15]), ([17, 0, 1, 2, 3, 4, 5, 6, 7, 8, 9, 10, 11, 12, 13, 14, 15, 16, 17], [])])
def jE.B6 : List Nat := [0, 1, 3, 0, 8, 24, 63, 127, 0, 256, 768, 0, 2048, 6144, 16128, 32767, 65535, 131071, 262143]
theorem jE.tab6 : rtab .any (opsOf Try.f78 6) = jE.T6 := by kernel_rfl
theorem jE.jKQ : jAa jE.T6.2 jE.B6 = true := by kernel_rfl
def jE.T17 : Bool × List (List Nat × List Nat) := (true, [([], []), ([], []), ([0, 1], [0, 1]), ([], []), ([], []), ([3, 4], [3, 4]), ([5], [5]), ([6], [6]), ([2, 7, 2], [2, 7]), ([8, 8, 0, 1, 2, 3, 4, 5, 6, 7, 8], [0, 8])])
def jE.B17 : List Nat := [0, 0, 3, 0, 0, 24, 56, 120, 255, 511]
theorem jE.jIv : rtab .any (opsOf Try.f78 17) = jE.T17 := by kernel_rfl
theorem jE.jHn : jAa jE.T17.2 jE.B17 = true := by kernel_rfl
theorem jE.calls (k : Nat) (A0 : Option Addr) (c0 : Nat) (l0 : List Int) (A1 : Option Addr) (c1 : Nat) (l1 : List Int) (r1 : List Int) (r2 : List Int) (r3 : Int) (w : World) (hr0 : Kd.C (Kd.int .u64) w A0 l0.length l0) (hc0 : l0.length ≤ c0) (hr1 : Kd.C (Kd.int .u64) w A1 l1.length l1) (hc1 : l1.length ≤ c1) (h : jE.f k l0 l1 = some (r1, r2, r3)) :
  Calls Try.prog 78 #[.slice A0 l0.length c0, .slice A1 l1.length c1] w fun e w' => ∃ v0_ v1_ : Value, e = .returned (.tuple #[v0_, v1_, .int .i64 r3]) ∧ Kd.R (Kd.int .u64) 22 w' w.heap.size (fun k_ => some k_ ≠ (v1_ : Value).ownBlock) v0_ r1 ∧ Kd.R (Kd.int .u64) 22 w' w.heap.size (fun k_ => some k_ ≠ (v0_ : Value).ownBlock) v1_ r2 ∧ Below w.heap.size w w' := by
 have HR0 := jA.mk hr0
 have HC0 := jA.mk hc0
 clear hr0 hc0
 have HR1 := jA.mk hr1
 have HC1 := jA.mk hc1
 clear hr1 hc1
 have HB := jA.mk (Below.refl w.heap.size w)
 have H : ((jk.f l0).bind fun t515 => (if t515 = true then ((jk.f l1).bind fun t516 => (jE.j0 k l0 l1 (!t516))) else (jE.j0 k l0 l1 true))) = some (r1, r2, r3) := h
 clear h
 have HC3 := jA.mk H
 clear H
 go_enter Try.func78, Try.ntmps78
 go_upto_region 1 with (fail)
 go_cut [21] (fun v21 wc => ∃ (kq : Nat) (x21_2 : Bool), v21 = .bool x21_2 ∧ jA (jE.j0 kq l0 l1 x21_2 = some (r1, r2, r3)) ∧ jA (kq ≤ k) ∧ jA (Below w.heap.size w wc))
 case first =>
  have H := HC3.out
  clear HC3
  obtain ⟨t515, A4, H⟩ := oc_ H
  try dsimp only at H
  by_cases c5 : t515 = true
  ·
   subst c5
   replace H := ip_ H
   obtain ⟨t516, A6, H⟩ := oc_ H
   try dsimp only at H
   have H' := jA.mk H
   clear H
   go_wp2_with (first | ((with_reducible refine jD (f := 74) rfl ?_); refine gl_ (some 15) Try.func74 #[.slice A0 l0.length c0] ?_; (with_reducible refine (jk.calls _ _ l0 true _ ?side1 ?side2 A4.out).mono ?_); (case side1 => exact cb_ HR0 HB); (case side2 => exact HC0.out); rintro e w' ⟨rfl, ⟨nd, rfl⟩⟩; refine ⟨_, rfl, ?_⟩) | ((with_reducible refine jW (N := 19) rfl ?_); (try (refine je (by rfl) ?_; dsimp only)); refine je (by first | rfl | kernel_rfl) ?_; dsimp only; (with_reducible refine jD (f := 74) rfl ?_); refine gl_ (some 19) Try.func74 #[.slice A1 l1.length c1] ?_; (with_reducible refine (jk.calls _ _ l1 t516 _ ?side1 ?side2 A6.out).mono ?_); (case side1 => repeat (first | exact (Kd.zT HR1.out (bb_ HB)) | (with_reducible refine Kd.zR ?_ _) | (with_reducible refine Kd.zV ?_ _) | (with_reducible refine Kd.zw ?_))); (case side2 => exact HC1.out); rintro e w' ⟨rfl, ⟨nd, rfl⟩⟩; refine ⟨_, rfl, ?_⟩))
   go_meet
   case rel => exact ⟨_, (!t516), sd_, H', ⟨by first | omega | exact Nat.le_refl _⟩, ⟨(bb_ HB)⟩⟩
  ·
   replace c5 := Bool.eq_false_iff.mpr c5
   subst c5
   replace H := in_ H
   have H' := jA.mk H
   clear H
   go_wp2_with (first | ((with_reducible refine jD (f := 74) rfl ?_); refine gl_ (some 15) Try.func74 #[.slice A0 l0.length c0] ?_; (with_reducible refine (jk.calls _ _ l0 false _ ?side1 ?side2 A4.out).mono ?_); (case side1 => exact cb_ HR0 HB); (case side2 => exact HC0.out); rintro e w' ⟨rfl, ⟨nd, rfl⟩⟩; refine ⟨_, rfl, ?_⟩))
   go_meet
   case rel => exact ⟨_, (true), sd_, H', ⟨by first | omega | exact Nat.le_refl _⟩, ⟨(bb_ HB)⟩⟩
 case rest =>
  clear HC3
  try clear c1
  try clear p2
  try clear c5
  obtain ⟨kq, x21_2, rfl, HA, HJ2, HB⟩ := hcut
  cases kq with
  | zero => exact absurd HA.out (by simp [jE.j0])
  | succ kj2 =>
   have H := HA.out
   clear HA
   simp only [jE.j0] at H
   by_cases c7 : x21_2 = true
   ·
    subst c7
    replace H := ip_ H
    simp only [Option.some.injEq, Prod.mk.injEq] at H
    obtain ⟨rfl, rfl, rfl⟩ := H
    go_wp2
    go_ret3
    exact ⟨_, _, ew_, nl_, nl_, (bb_ HB)⟩
   ·
    replace c7 := Bool.eq_false_iff.mpr c7
    subst c7
    replace H := in_ H
    by_cases c8 : (l1.length : Int) = 0
    ·
     rw [if_pos c8] at H
     have c8b0 := beq_iff_eq.mpr c8
     have c8b1 := bne_eq_false_iff_eq.mpr c8
     clear c8
     simp only [Option.some.injEq, Prod.mk.injEq] at H
     obtain ⟨rfl, rfl, rfl⟩ := H
     go_wp2
     go_ret3
     exact ⟨_, _, ew_, nl_, nl_, (bb_ HB)⟩
    ·
     rw [if_neg c8] at H
     have c8b0 := beq_eq_false_iff_ne.mpr c8
     have c8b1 := bne_iff_ne.mpr c8
     have c8b2 : ¬ (l1 = []) := fun h_ => c8 (by rw [h_]; rfl)
     have HC9 := jA.mk H
     clear H
     go_upto_region 5 with (fail)
     go_cut [32] (fun v32 wc => ∃ (kq : Nat) (x32_8 : Bool), v32 = .bool x32_8 ∧ jA (jE.j1 kq l0 l1 x32_8 = some (r1, r2, r3)) ∧ jA (kq ≤ kj2) ∧ jA (Below w.heap.size w wc))
     case first =>
      have H := HC9.out
      clear HC9
      by_cases c10 : (l0.length : Int) = 1
      ·
       rw [if_pos c10] at H
       have c10b0 := beq_iff_eq.mpr c10
       have c10b1 := bne_eq_false_iff_eq.mpr c10
       clear c10
       (first | rw [c10b0] | (simp only [qg, jAb]; rw [c10b0]) | skip)
       have H' := jA.mk H
       clear H
       go_wp2
       go_meet
       case rel => exact ⟨_, (((l1.length : Int) == 1)), sd_, H', ⟨by have := HJ2.out; first | omega | exact Nat.le_refl _⟩, ⟨(bb_ HB)⟩⟩
      ·
       rw [if_neg c10] at H
       have c10b0 := beq_eq_false_iff_ne.mpr c10
       have c10b1 := bne_iff_ne.mpr c10
       (first | rw [c10b0] | (simp only [qg, jAb]; rw [c10b0]) | skip)
       have H' := jA.mk H
       clear H
       go_wp2
       go_meet
       case rel => exact ⟨_, (false), sd_, H', ⟨by have := HJ2.out; first | omega | exact Nat.le_refl _⟩, ⟨(bb_ HB)⟩⟩
     case rest =>
      clear HC9
      try clear c1
      try clear p2
      try clear c5
      try clear c7
      try clear c8
      try clear c8b0
      try clear c8b1
      try clear c8b2
      try clear c10
      try clear c10b0
      try clear c10b1
      try clear p2
      obtain ⟨kq, x32_8, rfl, HA, HJ8, HB⟩ := hcut
      cases kq with
      | zero => exact absurd HA.out (by simp [jE.j1])
      | succ kj8 =>
       have H := HA.out
       clear HA
       simp only [jE.j1] at H
       by_cases c11 : x32_8 = true
       ·
        subst c11
        replace H := ip_ H
        by_cases c12 : 0 < (l0.length : Int)
        ·
         rw [if_pos c12] at H
         have c12b0 := decide_eq_true c12
         have c12b1 : decide (0 < l0.length) = true := decide_eq_true (by omega)
         clear c12
         by_cases c13 : 0 < (l1.length : Int)
         ·
          rw [if_pos c13] at H
          have c13b0 := decide_eq_true c13
          have c13b1 : decide (0 < l1.length) = true := decide_eq_true (by omega)
          clear c13
          by_cases c14 : (rd l1 0) = 0
          ·
           rw [if_pos c14] at H
           exact absurd H (by simp)
          ·
           rw [if_neg c14] at H
           have c14b0 := beq_eq_false_iff_ne.mpr c14
           have c14b1 := bne_iff_ne.mpr c14
           obtain ⟨t519, A15, H⟩ := oc_ H
           try dsimp only at H
           obtain ⟨t524, A16, H⟩ := oc_ H
           try dsimp only at H
           simp only [Option.some.injEq, Prod.mk.injEq] at H
           obtain ⟨rfl, rfl, rfl⟩ := H
           try go_wp2
           have n0_ := jA.mk (zk HB.out)
           clear HB
           have HB := n0_
           clear n0_
           have p517 : 0 ≤ (0 : Int) := (by omega)
           have q517 : 0 < (l0.length : Int) := of_decide_eq_true am_
           obtain ⟨ad517, e517, hx517_0⟩ := Kd.zJ HR0.out 0 p517 q517
           have hw517_0 := hx517_0
           (try rw [show ((0 : Int)).toNat = 0 from rfl] at hw517_0)
           (try rw [show 0 * 1 = 0 from rfl] at hw517_0)
           (try rw [Addr.add_zero'] at hw517_0)
           cases e517
           have qi517 : (0 < l0.length) = True := eq_true (by omega)
           (try rw [show ((0 : Int)).toNat = 0 from rfl] at hx517_0)
           (try rw [Addr.add_zero'] at hx517_0)
           replace hx517_0 := (HB.out.cell (World.block_lt_of_cell? w _ hx517_0)).trans hx517_0
           replace p517 := eq_true p517
           replace q517 := eq_true q517
           have p518 : 0 ≤ (0 : Int) := (by omega)
           have q518 : 0 < (l1.length : Int) := of_decide_eq_true am_
           obtain ⟨ad518, e518, hx518_0⟩ := Kd.zJ HR1.out 0 p518 q518
           have hw518_0 := hx518_0
           (try rw [show ((0 : Int)).toNat = 0 from rfl] at hw518_0)
           (try rw [show 0 * 1 = 0 from rfl] at hw518_0)
           (try rw [Addr.add_zero'] at hw518_0)
           cases e518
           have qi518 : (0 < l1.length) = True := eq_true (by omega)
           (try rw [show ((0 : Int)).toNat = 0 from rfl] at hx518_0)
           (try rw [Addr.add_zero'] at hx518_0)
           replace hx518_0 := (HB.out.cell (World.block_lt_of_cell? w _ hx518_0)).trans hx518_0
           replace p518 := eq_true p518
           replace q518 := eq_true q518
           have p522 : 0 ≤ (0 : Int) := (by omega)
           have q522 : 0 < (l0.length : Int) := of_decide_eq_true am_
           obtain ⟨ad522, e522, hx522_0⟩ := Kd.zJ HR0.out 0 p522 q522
           have hw522_0 := hx522_0
           (try rw [show ((0 : Int)).toNat = 0 from rfl] at hw522_0)
           (try rw [show 0 * 1 = 0 from rfl] at hw522_0)
           (try rw [Addr.add_zero'] at hw522_0)
           obtain rfl : ad517 = ad522 := (by injection e522)
           have qi522 : (0 < l0.length) = True := eq_true (by omega)
           (try rw [show ((0 : Int)).toNat = 0 from rfl] at hx522_0)
           (try rw [Addr.add_zero'] at hx522_0)
           replace hx522_0 := (HB.out.cell (World.block_lt_of_cell? w _ hx522_0)).trans hx522_0
           replace p522 := eq_true p522
           replace q522 := eq_true q522
           have p523 : 0 ≤ (0 : Int) := (by omega)
           have q523 : 0 < (l1.length : Int) := of_decide_eq_true am_
           obtain ⟨ad523, e523, hx523_0⟩ := Kd.zJ HR1.out 0 p523 q523
           have hw523_0 := hx523_0
           (try rw [show ((0 : Int)).toNat = 0 from rfl] at hw523_0)
           (try rw [show 0 * 1 = 0 from rfl] at hw523_0)
           (try rw [Addr.add_zero'] at hw523_0)
           obtain rfl : ad518 = ad523 := (by injection e523)
           have qi523 : (0 < l1.length) = True := eq_true (by omega)
           (try rw [show ((0 : Int)).toNat = 0 from rfl] at hx523_0)
           (try rw [Addr.add_zero'] at hx523_0)
           replace hx523_0 := (HB.out.cell (World.block_lt_of_cell? w _ hx523_0)).trans hx523_0
           replace p523 := eq_true p523
           replace q523 := eq_true q523
           refine jAk (n := 19) (S := fun w' => w'.cell? ad517 = some (.int .u64 (rd l0 0)) ∧ w'.cell? ad518 = some (.int .u64 (rd l1 0)) ∧ w'.cell? ad517 = some (.int .u64 (rd l0 0)) ∧ w'.cell? ad518 = some (.int .u64 (rd l1 0))) (ds := []) #[false, false, false, false, false, false, false, false, false, false, false, false, false, false, false, false, false, false, false] kr_ rfl rfl ⟨((HB.out.cell (World.block_lt_of_cell? w _ hw517_0)).trans hw517_0), ((HB.out.cell (World.block_lt_of_cell? w _ hw518_0)).trans hw518_0), ((HB.out.cell (World.block_lt_of_cell? w _ hw522_0)).trans hw522_0), ((HB.out.cell (World.block_lt_of_cell? w _ hw523_0)).trans hw523_0)⟩ (fun hHeld => ?_); refine jAK jE.tab6 jE.jKQ (fun HT_ HW_ => ?_)
           generalize wc.drew = w17 at HB hx517_0 hx518_0 hx522_0 hx523_0 hHeld ⊢
           refine pu_ 0 (some 33) (ba_ 19 1) (vL HT_.out kr_) ?_
           refine pu_ 1 (some 34) (ba_ 19 3) (vL HT_.out kr_) ?_
           refine pu_ 3 (some 36) (ba_ 19 11) (vL HT_.out kr_) ?_
           refine pu_ 4 (some 37) (ba_ 19 27) (vL HT_.out kr_) ?_
           refine pu_ 8 (some 41) (ba_ 19 283) (vL HT_.out kr_) ?_
           refine pu_ 9 (some 42) (ba_ 19 795) (vL HT_.out kr_) ?_
           refine pu_ 11 (some 44) (ba_ 19 2843) (vL HT_.out kr_) ?_
           refine pu_ 12 (some 45) (ba_ 19 6939) (vL HT_.out kr_) ?_
           refine tk4_ 2 (some 35) (ba_ 19 6943) (qF HT_.out HW_.out kr_) hHeld ?_
           refine tk4_ 5 (some 38) (ba_ 19 6975) (qF HT_.out HW_.out kr_) hHeld ?_
           refine pu_ 6 (some 39) (ba_ 19 7039) (vL HT_.out kr_) ?_
           refine tk4_ 10 (some 43) (ba_ 19 8063) (qF HT_.out HW_.out kr_) hHeld ?_
           refine tk4_ 13 (some 46) (ba_ 19 16255) (qF HT_.out HW_.out kr_) hHeld ?_
           refine pu_ 14 (some 47) (ba_ 19 32639) (vL HT_.out kr_) ?_
           refine one_ (i := 7) (N := some 40) (ba_ 19 32767) rfl rfl (ql HT_.out kr_) (by decide) (fun K hK => ?_)
           refine jAs Try.func21 kr_ rfl #[.int .u64 (IntKind.u64.wrap (Int.tdiv (rd l0 0) (rd l1 0)))] (by rfl) rfl rfl (by (try simp only [List.map_toArray, List.map_cons, List.map_nil]); first | done | rfl | (simp only [List.length_drop, List.length_take]; rfl)) ?_
           with_reducible refine (vY.calls kj8 (IntKind.u64.wrap (Int.tdiv (rd l0 0) (rd l1 0))) t519 _ A15.out).mono ?_
           rintro e w18 ⟨v520, rfl, ho0, hb⟩
           refine ⟨_, rfl, ?_⟩
           have n0_ := jA.mk (Kd.jL ho0 (jB (bb_ HB)))
           have n1_ := bs_ HB hb
           clear HB
           have HO521 := n0_
           have HB := n1_
           clear n0_ n1_
           (try clear hb)
           (try clear hb2)
           (try clear hk)
           (try clear hi)
           (try clear ho0)
           refine hK.out _ _ ⟨((HB.out.cell (World.block_lt_of_cell? w _ hw517_0)).trans hw517_0), ((HB.out.cell (World.block_lt_of_cell? w _ hw518_0)).trans hw518_0), ((HB.out.cell (World.block_lt_of_cell? w _ hw522_0)).trans hw522_0), ((HB.out.cell (World.block_lt_of_cell? w _ hw523_0)).trans hw523_0)⟩ (fun hHeld => ?_)
           clear hK K
           refine ns_ 40 ?_
           refine one_ (i := 15) (N := some 48) (ba_ 19 65535) rfl rfl (ql HT_.out kr_) (by decide) (fun K hK => ?_)
           refine jAs Try.func21 kr_ rfl #[.int .u64 (Int.tmod (rd l0 0) (rd l1 0))] (by rfl) rfl rfl (by (try simp only [List.map_toArray, List.map_cons, List.map_nil]); first | done | rfl | (simp only [List.length_drop, List.length_take]; rfl)) ?_
           with_reducible refine (vY.calls kj8 (Int.tmod (rd l0 0) (rd l1 0)) t524 _ A16.out).mono ?_
           rintro e w19 ⟨v525, rfl, ho0, hb⟩
           refine ⟨_, rfl, ?_⟩
           have n0_ := re_ HO521 ho0 hb
           have n1_ := jA.mk (Kd.jL (Kd.jG ho0 (Kd.R_lt (rR_ HO521))) (jB (bb_ HB)))
           have n2_ := bs_ HB hb
           clear HO521
           clear HB
           have HO521 := n0_
           have HO526 := n1_
           have HB := n2_
           clear n0_ n1_ n2_
           (try clear hb)
           (try clear hb2)
           (try clear hk)
           (try clear hi)
           (try clear ho0)
           refine hK.out _ _ ⟨((HB.out.cell (World.block_lt_of_cell? w _ hw517_0)).trans hw517_0), ((HB.out.cell (World.block_lt_of_cell? w _ hw518_0)).trans hw518_0), ((HB.out.cell (World.block_lt_of_cell? w _ hw522_0)).trans hw522_0), ((HB.out.cell (World.block_lt_of_cell? w _ hw523_0)).trans hw523_0)⟩ (fun hHeld => ?_)
           clear hK K
           refine ns_ 48 ?_
           refine pu_ 16 (some 4) (ba_ 19 131071) (vL HT_.out kr_) ?_
           refine pu_ 17 (some 5) (ba_ 19 262143) (vL HT_.out kr_) ?_
           refine pu_ 18 (some 6) (ba_ 19 524287) (vL HT_.out kr_) ?_
           refine jBH (jAt HT_.out kr_) ?_
           try go_wp2
           go_ret3
           exact ⟨_, _, ew_, by refine pR_ ?_; exact Kd.jO HO521.out (fun _ hk => hk.2), by refine pR_ ?_; exact Kd.jO HO526.out (fun _ hk => hk.2), (bb_ HB)⟩
         ·
          rw [if_neg c13] at H
          exact absurd H (by simp)
        ·
         rw [if_neg c12] at H
         exact absurd H (by simp)
       ·
        replace c11 := Bool.eq_false_iff.mpr c11
        subst c11
        replace H := in_ H
        obtain ⟨t527, A20, H⟩ := oc_ H
        try dsimp only at H
        obtain ⟨y530, hy530⟩ : ∃ y_ : List Int, y_ = (([] : List Int)) := ⟨_, rfl⟩
        replace H : (jE.l0 kj8 l1 t527 y530 0) = some (r1, r2, r3) := by first | (rw [hy530]; with_reducible exact H) | (have H2_ := (Option.bind_some _ _).symm.trans H; rw [hy530]; with_reducible exact H2_) | (with_reducible exact hs_ H) | with_reducible exact H | (rw [hy530]; exact H) | exact H
        have Ny530 := jA.mk hy530
        clear hy530
        have H' := jA.mk H
        clear H
        go_wp2_with (first | ((with_reducible refine jD (f := 68) rfl ?_); refine gl_ (some 50) Try.func68 #[.slice A0 l0.length c0] ?_; (with_reducible refine (jH.calls kj8 _ _ l0 t527 _ ?side1 ?side2 A20.out).mono ?_); (case side1 => exact cb_ HR0 HB); (case side2 => exact HC0.out); rintro e w21 ⟨v528, rfl, ho0, hb⟩; refine ⟨_, rfl, ?_⟩; have HO529 := jA.mk (Kd.jL ho0 (jB (bb_ HB))); replace HB := bs_ HB hb) | ((with_reducible refine jW (N := 51) rfl ?_); (try (refine je (by rfl) ?_; dsimp only)); refine Kd.qy (Kd.int .u64) _ 22 ?hg (N := 51) ?hd (xs := ([] : List Int)) (inner := []) (ok := fun _ => True) (okp := fun _ => True) ?hr ?hp (fun _ hk => hk) trivial (Below.refl _ _) (Nat.le_refl _) (by simp) ?_; (case hd => rfl); (case hg => rfl); (case hr => exact gs_); (case hp => exact (Reps.none _ _)); intro v531 w22 ho23 hb hg_ hnew_; clear hg_ hnew_; (first | rw [← Ny530.out] at ho23 | (simp only [Int.reduceToNat] at ho23; rw [← Ny530.out] at ho23)); have HO532 := jA.mk (Kd.jL (Kd.jG ho23 (Kd.R_lt (rR_ HO529))) (jB (bb_ HB))); replace HO529 := re_ HO529 ho23 hb; replace HB := bs_ HB hb; clear hb ho23))
        go_loopg [8, 9] kj8 (fun kq v8 v9 w' => ∃ (x8_3 : List Int) (x9_3 : Int), v9 = .int .i64 x9_3 ∧ jA (jE.l0 kq l1 t527 x8_3 x9_3 = some (r1, r2, r3)) ∧ jA (kq ≤ kj8) ∧ jA (Kd.R (Kd.int .u64) 22 w' w.heap.size (fun k_ => some k_ ≠ (v8 : Value).ownBlock) v528 t527) ∧ jA (Kd.R (Kd.int .u64) 22 w' w.heap.size (fun k_ => some k_ ≠ (v528 : Value).ownBlock) v8 x8_3) ∧ jA (Below w.heap.size w w'))
        case atStart => exact ⟨(y530), (0), sd_, H', ⟨Nat.le_refl _⟩, ⟨by (with_reducible repeat (first | apply Kd.zG | apply Kd.zM | apply Kd.zP)); exact Kd.jO HO529.out (fun _ hk => hk.2)⟩, ⟨by (with_reducible repeat (first | apply Kd.zG | apply Kd.zM | apply Kd.zP)); exact Kd.jO HO532.out (fun _ hk => hk.2)⟩, ⟨(bb_ HB)⟩⟩
        case round =>
         clear H'
         try clear c1
         try clear c2
         try clear p2
         try clear c5
         try clear p5
         try clear q5
         try clear hx5
         try clear qi5
         try clear c6
         try clear c7
         try clear c8
         try clear c8b0
         try clear c8b1
         try clear c8b2
         try clear c10
         try clear c10b0
         try clear c10b1
         try clear c11
         try clear c12
         try clear c12b0
         try clear c12b1
         try clear c13
         try clear c13b0
         try clear c13b1
         try clear c14
         try clear c14b0
         try clear c14b1
         try clear c21
         try clear hx517_0
         try clear hx518_0
         try clear hx522_0
         try clear hx523_0
         try clear p2
         try clear p517
         try clear p518
         try clear p522
         try clear p523
         try clear q517
         try clear q518
         try clear q522
         try clear q523
         obtain ⟨x8_3, x9_3, rfl, HA, HK3, HO_7, HO_8, HB⟩ := hrel
         cases gk with
         | zero => exact absurd HA.out (by simp [jE.l0])
         | succ k3 =>
          have H := HA.out
          clear HA
          simp only [jE.l0] at H
          by_cases c24 : x9_3 < (t527.length : Int)
          ·
           rw [if_pos c24] at H
           have c24b0 := decide_eq_true c24
           clear c24
           by_cases c25 : x8_3.length < 17592186044416
           ·
            rw [if_pos c25] at H
            have LMc25 := jA.mk c25
            clear c25
            obtain ⟨y533, hy533⟩ : ∃ y_ : List Int, y_ = (x8_3 ++ [0]) := ⟨_, rfl⟩
            replace H : (jE.l0 k3 l1 t527 y533 (wrap64 (x9_3 + 1))) = some (r1, r2, r3) := by first | (rw [hy533]; with_reducible exact H) | (have H2_ := (Option.bind_some _ _).symm.trans H; rw [hy533]; with_reducible exact H2_) | (with_reducible exact hs_ H) | with_reducible exact H | (rw [hy533]; exact H) | exact H
            have Ny533 := jA.mk hy533
            clear hy533
            have H' := jA.mk H
            clear H
            obtain ⟨Ao26, co26, eo26⟩ := Kd.jP HO_7.out
            subst eo26
            go_wp2_with (first | ((with_reducible refine zK (b := .append) (xs := #[.tmp 58, .tmp 59]) rfl ?_); (try (refine je (by rfl) ?_; dsimp only)); at_builtin; refine Kd.qh (Kd.int .u64) (w0 := w) w.heap.size rfl (.tmp 58) (.tmp 59) 35 22 (.int .u64 0) 8 rfl Try.underlying35 qO rfl (by decide) (by omega) u8 x8_3 0 [.int .u64 0] (fun k_ => some k_ ≠ (.slice Ao26 t527.length co26 : Value).ownBlock) (fun _ => False) rfl rfl ?aP (fun _ hk => hk.elim) ?aF ?aO ?aB ?aS ?aL ?_; (case aP => exact rfl); (case aB => exact (bb_ HB)); (case aF => exact (fun k_ hk => Kd.fresh' (Kd.R_lt (rR_ HO_7)) k_ hk)); (case aO => exact (rR_ HO_8)); (case aS => exact (jB (bb_ HB))); (case aL => have := LMc25.out; omega); intro v534 w27 ho hb hg hat; rw [← Ny533.out] at ho; replace HO_7 := jA.mk (Kd.zh (ok := (fun _ => True)) (by refine pR_ ?_; exact Kd.jO HO_7.out (fun _ hk => ⟨trivial, hk⟩)) hg hat); replace HB := jA.mk (hb); have HO535 := jA.mk (ho); clear HO_8 ho hb hg hat))
            go_roundg k3
            case measure => have := HJ2.out; have := HJ8.out; have := HK3.out; omega
            case rel => exact ⟨(y533), (wrap64 (x9_3 + 1)), sd_, H', ⟨by have := HJ2.out; have := HJ8.out; have := HK3.out; omega⟩, ⟨by (with_reducible repeat (first | apply Kd.zG | apply Kd.zM | apply Kd.zP)); exact Kd.jO HO_7.out (fun _ hk => hk.2)⟩, ⟨(rR_ HO535)⟩, ⟨(bb_ HB)⟩⟩
           ·
            rw [if_neg c25] at H
            exact absurd H (by simp)
          ·
           rw [if_neg c24] at H
           have c24b0 := decide_eq_false c24
           clear c24
           obtain ⟨y536, hy536⟩ : ∃ y_ : List Int, y_ = (([] : List Int)) := ⟨_, rfl⟩
           replace H : (jE.l1 k3 l1 t527 x8_3 y536 (wrap64 ((t527.length : Int) - 1))) = some (r1, r2, r3) := by first | (rw [hy536]; with_reducible exact H) | (have H2_ := (Option.bind_some _ _).symm.trans H; rw [hy536]; with_reducible exact H2_) | (with_reducible exact hs_ H) | with_reducible exact H | (rw [hy536]; exact H) | exact H
           have Ny536 := jA.mk hy536
           clear hy536
           have H' := jA.mk H
           clear H
           obtain ⟨Ao28, co28, eo28⟩ := Kd.jP HO_7.out
           subst eo28
           go_wp2_with (first | ((with_reducible refine jW (N := 61) rfl ?_); (try (refine je (by rfl) ?_; dsimp only)); refine Kd.qy (Kd.int .u64) _ 22 ?hg (N := 61) ?hd (xs := ([] : List Int)) (inner := []) (ok := fun _ => True) (okp := fun _ => True) ?hr ?hp (fun _ hk => hk) trivial (Below.refl _ _) (Nat.le_refl _) (by simp) ?_; (case hd => rfl); (case hg => rfl); (case hr => exact gs_); (case hp => exact (Reps.none _ _)); intro v537 w29 ho30 hb hg_ hnew_; clear hg_ hnew_; (first | rw [← Ny536.out] at ho30 | (simp only [Int.reduceToNat] at ho30; rw [← Ny536.out] at ho30)); have HO538 := jA.mk (Kd.jL (Kd.jG (Kd.jG ho30 (Kd.R_lt (rR_ HO_7))) (Kd.R_lt (rR_ HO_8))) (jB (bb_ HB))); replace HO_7 := re_ HO_7 ho30 hb; replace HO_8 := re_ HO_8 ho30 hb; replace HB := bs_ HB hb; clear hb ho30))
           go_loopg [10, 11] k3 (fun kq v10 v11 w' => ∃ (x8_4 : List Int) (x10_4 : List Int) (x11_4 : Int), v11 = .int .i64 x11_4 ∧ jA (jE.l1 kq l1 t527 x8_4 x10_4 x11_4 = some (r1, r2, r3)) ∧ jA (kq ≤ k3) ∧ jA (Kd.R (Kd.int .u64) 22 w' w.heap.size (fun k_ => some k_ ≠ (u8 : Value).ownBlock ∧ some k_ ≠ (v10 : Value).ownBlock) (.slice Ao28 t527.length co28) t527) ∧ jA (Kd.R (Kd.int .u64) 22 w' w.heap.size (fun k_ => some k_ ≠ ((.slice Ao28 t527.length co28) : Value).ownBlock ∧ some k_ ≠ (v10 : Value).ownBlock) u8 x8_4) ∧ jA (Kd.R (Kd.int .u64) 22 w' w.heap.size (fun k_ => some k_ ≠ ((.slice Ao28 t527.length co28) : Value).ownBlock ∧ some k_ ≠ (u8 : Value).ownBlock) v10 x10_4) ∧ jA (Below w.heap.size w w'))
           case atStart => exact ⟨(x8_3), (y536), (wrap64 ((t527.length : Int) - 1)), sd_, H', ⟨Nat.le_refl _⟩, ⟨(rR_ HO_7)⟩, ⟨(rR_ HO_8)⟩, ⟨by (with_reducible repeat (first | apply Kd.zG | apply Kd.zM | apply Kd.zP)); exact Kd.jO HO538.out (fun _ hk => ⟨hk.1.2, hk.2⟩)⟩, ⟨(bb_ HB)⟩⟩
           case round =>
            clear H'
            try clear c1
            try clear c2
            try clear p2
            try clear c5
            try clear p5
            try clear q5
            try clear hx5
            try clear qi5
            try clear c6
            try clear p6
            try clear c7
            try clear c8
            try clear c8b0
            try clear c8b1
            try clear c8b2
            try clear c10
            try clear c10b0
            try clear c10b1
            try clear c11
            try clear c12
            try clear c12b0
            try clear c12b1
            try clear c13
            try clear c13b0
            try clear c13b1
            try clear c14
            try clear c14b0
            try clear c14b1
            try clear c21
            try clear c24
            try clear c24b0
            try clear c25
            try clear hx517_0
            try clear hx518_0
            try clear hx522_0
            try clear hx523_0
            try clear p2
            try clear p5
            try clear p517
            try clear p518
            try clear p522
            try clear p523
            try clear q5
            try clear q517
            try clear q518
            try clear q522
            try clear q523
            obtain ⟨x8_4, x10_4, x11_4, rfl, HA, HK4, HO_7, HO_8, HO_10, HB⟩ := hrel
            cases gk with
            | zero => exact absurd HA.out (by simp [jE.l1])
            | succ k4 =>
             have H := HA.out
             clear HA
             simp only [jE.l1] at H
             by_cases c31 : x11_4 ≥ 0
             ·
              rw [if_pos c31] at H
              have c31b0 := decide_eq_true c31
              clear c31
              obtain ⟨y542, hy542⟩ : ∃ y_ : List Int, y_ = (([4294967296] : List Int)) := ⟨_, rfl⟩
              replace H : ((jF.f k4 x10_4 y542).bind fun t545 => (if 0 ≤ x11_4 then (if x11_4 < (t527.length : Int) then ((jQ.f k4 t545 (([rd t527 x11_4] : List Int))).bind fun t552 => ((jU.f k4 t552 l1).bind fun t555 => (if t555 ≥ 0 then ((jf.f k4 t552 l1).bind fun t556 => (if x11_4 < (x8_4.length : Int) then ((some (x8_4.set (x11_4 : Int).toNat t556 : List Int)).bind fun y557 => ((jF.f k4 l1 (([rd y557 x11_4] : List Int))).bind fun t562 => ((jZ.f k4 t552 t562).bind fun bt565 => (jE.l1 k4 l1 t527 y557 bt565.1 (wrap64 (x11_4 - 1)))))) else (none))) else (jE.l1 k4 l1 t527 x8_4 t552 (wrap64 (x11_4 - 1)))))) else (none)) else (none))) = some (r1, r2, r3) := by first | (rw [hy542]; with_reducible exact H) | (have H2_ := (Option.bind_some _ _).symm.trans H; rw [hy542]; with_reducible exact H2_) | (with_reducible exact hs_ H) | with_reducible exact H | (rw [hy542]; exact H) | exact H
              have Ny542 := jA.mk hy542
              clear hy542
              obtain ⟨t545, A32, H⟩ := oc_ H
              try dsimp only at H
              by_cases c33 : 0 ≤ x11_4
              ·
               rw [if_pos c33] at H
               have c33b0 := decide_eq_true c33
               clear c33
               by_cases c34 : x11_4 < (t527.length : Int)
               ·
                rw [if_pos c34] at H
                have c34b0 := decide_eq_true c34
                clear c34
                obtain ⟨y549, hy549⟩ : ∃ y_ : List Int, y_ = (([rd t527 x11_4] : List Int)) := ⟨_, rfl⟩
                replace H : ((jQ.f k4 t545 y549).bind fun t552 => ((jU.f k4 t552 l1).bind fun t555 => (if t555 ≥ 0 then ((jf.f k4 t552 l1).bind fun t556 => (if x11_4 < (x8_4.length : Int) then ((some (x8_4.set (x11_4 : Int).toNat t556 : List Int)).bind fun y557 => ((jF.f k4 l1 (([rd y557 x11_4] : List Int))).bind fun t562 => ((jZ.f k4 t552 t562).bind fun bt565 => (jE.l1 k4 l1 t527 y557 bt565.1 (wrap64 (x11_4 - 1)))))) else (none))) else (jE.l1 k4 l1 t527 x8_4 t552 (wrap64 (x11_4 - 1)))))) = some (r1, r2, r3) := by first | (rw [hy549]; with_reducible exact H) | (have H2_ := (Option.bind_some _ _).symm.trans H; rw [hy549]; with_reducible exact H2_) | (with_reducible exact hs_ H) | with_reducible exact H | (rw [hy549]; exact H) | exact H
                have Ny549 := jA.mk hy549
                clear hy549
                obtain ⟨t552, A35, H⟩ := oc_ H
                try dsimp only at H
                obtain ⟨t555, A36, H⟩ := oc_ H
                try dsimp only at H
                by_cases c37 : t555 ≥ 0
                ·
                 rw [if_pos c37] at H
                 have c37b0 := decide_eq_true c37
                 clear c37
                 obtain ⟨t556, A38, H⟩ := oc_ H
                 try dsimp only at H
                 by_cases c39 : x11_4 < (x8_4.length : Int)
                 ·
                  rw [if_pos c39] at H
                  have c39b0 := decide_eq_true c39
                  clear c39
                  obtain ⟨y557, hy557⟩ : ∃ y_ : List Int, y_ = (x8_4.set (x11_4 : Int).toNat t556) := ⟨_, rfl⟩
                  replace H : ((jF.f k4 l1 (([rd y557 x11_4] : List Int))).bind fun t562 => ((jZ.f k4 t552 t562).bind fun bt565 => (jE.l1 k4 l1 t527 y557 bt565.1 (wrap64 (x11_4 - 1))))) = some (r1, r2, r3) := by first | (rw [hy557]; with_reducible exact H) | (have H2_ := (Option.bind_some _ _).symm.trans H; rw [hy557]; with_reducible exact H2_) | (with_reducible exact hs_ H) | with_reducible exact H | (rw [hy557]; exact H) | exact H
                  have Ny557 := jA.mk hy557
                  clear hy557
                  obtain ⟨y559, hy559⟩ : ∃ y_ : List Int, y_ = (([rd y557 x11_4] : List Int)) := ⟨_, rfl⟩
                  replace H : ((jF.f k4 l1 y559).bind fun t562 => ((jZ.f k4 t552 t562).bind fun bt565 => (jE.l1 k4 l1 t527 y557 bt565.1 (wrap64 (x11_4 - 1))))) = some (r1, r2, r3) := by first | (rw [hy559]; with_reducible exact H) | (have H2_ := (Option.bind_some _ _).symm.trans H; rw [hy559]; with_reducible exact H2_) | (with_reducible exact hs_ H) | with_reducible exact H | (rw [hy559]; exact H) | exact H
                  have Ny559 := jA.mk hy559
                  clear hy559
                  obtain ⟨t562, A41, H⟩ := oc_ H
                  try dsimp only at H
                  replace H := ob_ H
                  obtain ⟨⟨t565, t566⟩, A420, H⟩ := H
                  try dsimp only at H
                  have A42 := jA.mk A420
                  clear A420
                  have H' := jA.mk H
                  clear H
                  obtain ⟨Ao43, co43, eo43⟩ := Kd.jP HO_10.out
                  subst eo43
                  try go_wp2
                  have n0_ := jA.mk (Kd.zP HO_7.out)
                  have n1_ := jA.mk (Kd.zP HO_8.out)
                  have n2_ := jA.mk (Kd.zP HO_10.out)
                  have n3_ := jA.mk (zk HB.out)
                  clear HO_7
                  clear HO_8
                  clear HO_10
                  clear HB
                  have HO_7 := n0_
                  have HO_8 := n1_
                  have HO_10 := n2_
                  have HB := n3_
                  clear n0_ n1_ n2_ n3_
                  have p548 : 0 ≤ (x11_4 : Int) := of_decide_eq_true am_
                  have q548 : x11_4 < (t527.length : Int) := of_decide_eq_true am_
                  obtain ⟨ad548, e548, hx548_0⟩ := Kd.zJ (Kd.jC HO_7.out).2.2 x11_4 p548 q548
                  cases e548
                  replace p548 := eq_true p548
                  replace q548 := eq_true q548
                  refine jAk (n := 10) (S := fun w' => w'.cell? (ad548.add (x11_4).toNat) = some (.int .u64 (rd t527 x11_4))) (ds := []) #[false, false, false, false, false, false, false, false, false, false] kr_ rfl rfl (hx548_0) (fun hHeld => ?_); refine jAK jE.jIv jE.jHn (fun HT_ HW_ => ?_)
                  generalize wr.drew = w44 at HO_7 HO_8 HO_10 HB hx548_0 hHeld ⊢
                  refine pu_ 0 (some 69) (ba_ 10 1) (vL HT_.out kr_) ?_
                  refine pu_ 3 (some 72) (ba_ 10 9) (vL HT_.out kr_) ?_
                  refine pu_ 4 (some 73) (ba_ 10 25) (vL HT_.out kr_) ?_
                  refine pu_ 5 (some 74) (ba_ 10 57) (vL HT_.out kr_) ?_
                  refine tk1_ 6 (some 75) (ba_ 10 121) (qF HT_.out HW_.out kr_) hHeld ?_
                  refine jHN (σ := Value × Value × Value) 2 #[true, true, true, true, true, true, true, true, false, false] (fun s_ => [(70, s_.1), (71, s_.2.1), (76, s_.2.2)]) (fun s_ w' => (w'.cell? (ad548.add (x11_4).toNat) = some (.int .u64 (rd t527 x11_4))) ∧ (Kd.R (Kd.int .u64) 22 w' w.heap.size (fun k_ => some k_ ≠ (s_.2.1 : Value).ownBlock ∧ some k_ ≠ (s_.2.2 : Value).ownBlock ∧ some k_ ≠ (.slice Ao43 x10_4.length co43 : Value).ownBlock ∧ some k_ ≠ (.slice (some ad548) t527.length co28 : Value).ownBlock ∧ some k_ ≠ (u8 : Value).ownBlock) s_.1 y542) ∧ (Kd.R (Kd.int .u64) 22 w' w.heap.size (fun k_ => some k_ ≠ (s_.1 : Value).ownBlock ∧ some k_ ≠ (s_.2.2 : Value).ownBlock ∧ some k_ ≠ (.slice Ao43 x10_4.length co43 : Value).ownBlock ∧ some k_ ≠ (.slice (some ad548) t527.length co28 : Value).ownBlock ∧ some k_ ≠ (u8 : Value).ownBlock) s_.2.1 t545) ∧ (Kd.R (Kd.int .u64) 22 w' w.heap.size (fun k_ => some k_ ≠ (s_.1 : Value).ownBlock ∧ some k_ ≠ (s_.2.1 : Value).ownBlock ∧ some k_ ≠ (.slice Ao43 x10_4.length co43 : Value).ownBlock ∧ some k_ ≠ (.slice (some ad548) t527.length co28 : Value).ownBlock ∧ some k_ ≠ (u8 : Value).ownBlock) s_.2.2 y549) ∧ (Kd.R (Kd.int .u64) 22 w' w.heap.size (fun k_ => some k_ ≠ (s_.1 : Value).ownBlock ∧ some k_ ≠ (s_.2.1 : Value).ownBlock ∧ some k_ ≠ (s_.2.2 : Value).ownBlock ∧ some k_ ≠ (.slice (some ad548) t527.length co28 : Value).ownBlock ∧ some k_ ≠ (u8 : Value).ownBlock) (.slice Ao43 x10_4.length co43) x10_4) ∧ (Kd.R (Kd.int .u64) 22 w' w.heap.size (fun k_ => some k_ ≠ (s_.1 : Value).ownBlock ∧ some k_ ≠ (s_.2.1 : Value).ownBlock ∧ some k_ ≠ (s_.2.2 : Value).ownBlock ∧ some k_ ≠ (.slice Ao43 x10_4.length co43 : Value).ownBlock ∧ some k_ ≠ (u8 : Value).ownBlock) (.slice (some ad548) t527.length co28) t527) ∧ (Kd.R (Kd.int .u64) 22 w' w.heap.size (fun k_ => some k_ ≠ (s_.1 : Value).ownBlock ∧ some k_ ≠ (s_.2.1 : Value).ownBlock ∧ some k_ ≠ (s_.2.2 : Value).ownBlock ∧ some k_ ≠ (.slice Ao43 x10_4.length co43 : Value).ownBlock ∧ some k_ ≠ (.slice (some ad548) t527.length co28 : Value).ownBlock) u8 x8_4) ∧ (Below w.heap.size w w')) ?_ ?_
                  rotate_left
                  ·
                   intro hCont
                   refine two_ (i := 1) (j := 7) (Ni := some 70) (Nj := some 76) (ba_ 10 123) (ba_ 10 249) rfl rfl rfl rfl (jCi HT_.out kr_) (by decide) (by decide) (fun K hK => ?_) (fun K hK => ?_)
                   ·
                    skip
                    refine Kd.qm (Kd.int .u64) _ 22 ?hg (N := 70) ?hd (xs := ([4294967296] : List Int)) (inner := [.int .u64 4294967296]) (ok := fun _ => True) (okp := fun _ => True) ?hr ?hp (fun _ hk => hk) trivial (Below.refl _ _) (Nat.le_refl _) (by simp) ?_; (case hd => rfl); (case hg => rfl); (case hr => exact gs_); (case hp => exact (Reps.one (show Kd.M (Kd.int .u64) _ _ _ 4294967296 [.int .u64 4294967296] from rfl) (Reps.none _ _)))
                    intro v543 w45 ho46 hb hg_ hnew_
                    have HS0_ := (hb.cell (World.block_lt_of_cell? _ _ (hHeld))).trans (hHeld)
                    clear hg_ hnew_
                    (first | rw [← Ny542.out] at ho46 | (simp only [Int.reduceToNat] at ho46; rw [← Ny542.out] at ho46))
                    have n0_ := re_ HO_7 ho46 hb
                    have n1_ := re_ HO_8 ho46 hb
                    have n2_ := re_ HO_10 ho46 hb
                    have n3_ := jA.mk (Kd.jL (Kd.jG (Kd.jG (Kd.jG ho46 (Kd.R_lt (rR_ HO_7))) (Kd.R_lt (rR_ HO_8))) (Kd.R_lt (rR_ HO_10))) (jB (bb_ HB)))
                    have n4_ := bs_ HB hb
                    clear HO_7
                    clear HO_8
                    clear HO_10
                    clear HB
                    have HO_7 := n0_
                    have HO_8 := n1_
                    have HO_10 := n2_
                    have HO544 := n3_
                    have HB := n4_
                    clear n0_ n1_ n2_ n3_ n4_
                    clear hb ho46
                    obtain ⟨Ao47, co47, eo47⟩ := Kd.jP HO544.out
                    (first | subst eo47 | (injection eo47 with f1_ f2_ f3_; have f4_ := f1_.symm; have f5_ := f3_.symm; clear f1_ f2_ f3_; subst f4_; subst f5_))
                    refine hK.out _ _ (HS0_) (fun hHeld => ?_)
                    clear hK K
                    refine ns_ 70 ?_
                    refine two_ (i := 2) (j := 7) (Ni := some 71) (Nj := some 76) (ba_ 10 127) (ba_ 10 251) rfl rfl rfl rfl (jCi HT_.out kr_) (by decide) (by decide) (fun K hK => ?_) (fun K hK => ?_)
                    ·
                     skip
                     refine jAs Try.func23 kr_ rfl #[.slice Ao43 x10_4.length co43, .slice Ao47 y542.length co47] (by rfl) rfl rfl (by (try simp only [List.map_toArray, List.map_cons, List.map_nil]); first | done | rfl | (simp only [List.length_drop, List.length_take]; rfl)) ?_
                     with_reducible refine (jF.calls k4 _ _ x10_4 _ _ y542 t545 _ ?side1 ?side2 ?side3 ?side4 A32.out).mono ?_
                     (case side1 => exact cc_ (Kd.jC HO_10.out).2.2)
                     (case side2 => exact (Kd.jC HO_10.out).2.1)
                     (case side3 => exact cc_ (Kd.jC HO544.out).2.2)
                     (case side4 => exact (Kd.jC HO544.out).2.1)
                     rintro e w48 ⟨v546, rfl, ho0, hb⟩
                     have HS0_ := (hb.cell (World.block_lt_of_cell? _ _ (hHeld))).trans (hHeld)
                     refine ⟨_, rfl, ?_⟩
                     have n0_ := re_ HO_7 ho0 hb
                     have n1_ := re_ HO_8 ho0 hb
                     have n2_ := re_ HO_10 ho0 hb
                     have n3_ := re_ HO544 ho0 hb
                     have n4_ := jA.mk (Kd.jL (Kd.jG (Kd.jG (Kd.jG (Kd.jG ho0 (Kd.R_lt (rR_ HO_7))) (Kd.R_lt (rR_ HO_8))) (Kd.R_lt (rR_ HO_10))) (Kd.R_lt (rR_ HO544))) (jB (bb_ HB)))
                     have n5_ := bs_ HB hb
                     clear HO_7
                     clear HO_8
                     clear HO_10
                     clear HO544
                     clear HB
                     have HO_7 := n0_
                     have HO_8 := n1_
                     have HO_10 := n2_
                     have HO544 := n3_
                     have HO547 := n4_
                     have HB := n5_
                     clear n0_ n1_ n2_ n3_ n4_ n5_
                     (try clear hb)
                     (try clear hb2)
                     (try clear hk)
                     (try clear hi)
                     (try clear ho0)
                     refine hK.out _ _ (HS0_) (fun hHeld => ?_)
                     clear hK K
                     refine ns_ 71 ?_
                     refine one_ (i := 7) (N := some 76) (ba_ 10 255) rfl rfl (ql HT_.out kr_) (by decide) (fun K hK => ?_)
                     refine Kd.qm (Kd.int .u64) _ 22 ?hg (N := 76) ?hd (xs := ([rd t527 x11_4] : List Int)) (inner := [.int .u64 (rd t527 x11_4)]) (ok := fun _ => True) (okp := fun _ => True) ?hr ?hp (fun _ hk => hk) trivial (Below.refl _ _) (Nat.le_refl _) (by simp) ?_; (case hd => rfl); (case hg => rfl); (case hr => exact gs_); (case hp => exact (Reps.one (show Kd.M (Kd.int .u64) _ _ _ (rd t527 x11_4) [.int .u64 (rd t527 x11_4)] from rfl) (Reps.none _ _)))
                     intro v550 w49 ho50 hb hg_ hnew_
                     have HS0_ := (hb.cell (World.block_lt_of_cell? _ _ (hHeld))).trans (hHeld)
                     clear hg_ hnew_
                     (first | rw [← Ny549.out] at ho50 | (simp only [Int.reduceToNat] at ho50; rw [← Ny549.out] at ho50))
                     have n0_ := re_ HO_7 ho50 hb
                     have n1_ := re_ HO_8 ho50 hb
                     have n2_ := re_ HO_10 ho50 hb
                     have n3_ := re_ HO544 ho50 hb
                     have n4_ := re_ HO547 ho50 hb
                     have n5_ := jA.mk (Kd.jL (Kd.jG (Kd.jG (Kd.jG (Kd.jG (Kd.jG ho50 (Kd.R_lt (rR_ HO_7))) (Kd.R_lt (rR_ HO_8))) (Kd.R_lt (rR_ HO_10))) (Kd.R_lt (rR_ HO544))) (Kd.R_lt (rR_ HO547))) (jB (bb_ HB)))
                     have n6_ := bs_ HB hb
                     clear HO_7
                     clear HO_8
                     clear HO_10
                     clear HO544
                     clear HO547
                     clear HB
                     have HO_7 := n0_
                     have HO_8 := n1_
                     have HO_10 := n2_
                     have HO544 := n3_
                     have HO547 := n4_
                     have HO551 := n5_
                     have HB := n6_
                     clear n0_ n1_ n2_ n3_ n4_ n5_ n6_
                     clear hb ho50
                     refine hK.out _ _ (HS0_) (fun hHeld => ?_)
                     clear hK K
                     refine ns_ 76 ?_
                     exact jBR (by simp only [jAX, Act.put, ss_]) (hCont (.slice Ao47 y542.length co47, v546, v550) _ ⟨hHeld, (by refine pR_ ?_; exact Kd.jO HO544.out (fun _ hk => ⟨hk.1.2, ⟨hk.2, ⟨hk.1.1.2, ⟨hk.1.1.1.1.2, hk.1.1.1.2⟩⟩⟩⟩)), (by refine pR_ ?_; exact Kd.jO HO547.out (fun _ hk => ⟨hk.1.2, ⟨hk.2, ⟨hk.1.1.2, ⟨hk.1.1.1.1.2, hk.1.1.1.2⟩⟩⟩⟩)), (by refine pR_ ?_; exact Kd.jO HO551.out (fun _ hk => ⟨hk.1.2, ⟨hk.2, ⟨hk.1.1.2, ⟨hk.1.1.1.1.2, hk.1.1.1.2⟩⟩⟩⟩)), (by refine pR_ ?_; exact Kd.jO HO_10.out (fun _ hk => ⟨hk.1.1.2, ⟨hk.1.2, ⟨hk.2, ⟨hk.1.1.1.1, hk.1.1.1.2⟩⟩⟩⟩)), (by refine pR_ ?_; exact Kd.jO HO_7.out (fun _ hk => ⟨hk.1.1.2, ⟨hk.1.2, ⟨hk.2, ⟨hk.1.1.1.2, hk.1.1.1.1⟩⟩⟩⟩)), (by refine pR_ ?_; exact Kd.jO HO_8.out (fun _ hk => ⟨hk.1.1.2, ⟨hk.1.2, ⟨hk.2, ⟨hk.1.1.1.2, hk.1.1.1.1⟩⟩⟩⟩)), (bb_ HB)⟩)
                    ·
                     skip
                     refine Kd.qm (Kd.int .u64) _ 22 ?hg (N := 76) ?hd (xs := ([rd t527 x11_4] : List Int)) (inner := [.int .u64 (rd t527 x11_4)]) (ok := fun _ => True) (okp := fun _ => True) ?hr ?hp (fun _ hk => hk) trivial (Below.refl _ _) (Nat.le_refl _) (by simp) ?_; (case hd => rfl); (case hg => rfl); (case hr => exact gs_); (case hp => exact (Reps.one (show Kd.M (Kd.int .u64) _ _ _ (rd t527 x11_4) [.int .u64 (rd t527 x11_4)] from rfl) (Reps.none _ _)))
                     intro v550 w47 ho48 hb hg_ hnew_
                     have HS0_ := (hb.cell (World.block_lt_of_cell? _ _ (hHeld))).trans (hHeld)
                     clear hg_ hnew_
                     (first | rw [← Ny549.out] at ho48 | (simp only [Int.reduceToNat] at ho48; rw [← Ny549.out] at ho48))
                     have n0_ := re_ HO_7 ho48 hb
                     have n1_ := re_ HO_8 ho48 hb
                     have n2_ := re_ HO_10 ho48 hb
                     have n3_ := re_ HO544 ho48 hb
                     have n4_ := jA.mk (Kd.jL (Kd.jG (Kd.jG (Kd.jG (Kd.jG ho48 (Kd.R_lt (rR_ HO_7))) (Kd.R_lt (rR_ HO_8))) (Kd.R_lt (rR_ HO_10))) (Kd.R_lt (rR_ HO544))) (jB (bb_ HB)))
                     have n5_ := bs_ HB hb
                     clear HO_7
                     clear HO_8
                     clear HO_10
                     clear HO544
                     clear HB
                     have HO_7 := n0_
                     have HO_8 := n1_
                     have HO_10 := n2_
                     have HO544 := n3_
                     have HO551 := n4_
                     have HB := n5_
                     clear n0_ n1_ n2_ n3_ n4_ n5_
                     clear hb ho48
                     obtain ⟨Ao49, co49, eo49⟩ := Kd.jP HO544.out
                     (first | subst eo49 | (injection eo49 with f1_ f2_ f3_; have f4_ := f1_.symm; have f5_ := f3_.symm; clear f1_ f2_ f3_; subst f4_; subst f5_))
                     refine hK.out _ _ (HS0_) (fun hHeld => ?_)
                     clear hK K
                     refine ns_ 76 ?_
                     refine one_ (i := 2) (N := some 71) (ba_ 10 255) rfl rfl (ql HT_.out kr_) (by decide) (fun K hK => ?_)
                     refine jAs Try.func23 kr_ rfl #[.slice Ao43 x10_4.length co43, .slice Ao49 y542.length co49] (by rfl) rfl rfl (by (try simp only [List.map_toArray, List.map_cons, List.map_nil]); first | done | rfl | (simp only [List.length_drop, List.length_take]; rfl)) ?_
                     with_reducible refine (jF.calls k4 _ _ x10_4 _ _ y542 t545 _ ?side1 ?side2 ?side3 ?side4 A32.out).mono ?_
                     (case side1 => exact cc_ (Kd.jC HO_10.out).2.2)
                     (case side2 => exact (Kd.jC HO_10.out).2.1)
                     (case side3 => exact cc_ (Kd.jC HO544.out).2.2)
                     (case side4 => exact (Kd.jC HO544.out).2.1)
                     rintro e w50 ⟨v546, rfl, ho0, hb⟩
                     have HS0_ := (hb.cell (World.block_lt_of_cell? _ _ (hHeld))).trans (hHeld)
                     refine ⟨_, rfl, ?_⟩
                     have n0_ := re_ HO_7 ho0 hb
                     have n1_ := re_ HO_8 ho0 hb
                     have n2_ := re_ HO_10 ho0 hb
                     have n3_ := re_ HO544 ho0 hb
                     have n4_ := re_ HO551 ho0 hb
                     have n5_ := jA.mk (Kd.jL (Kd.jG (Kd.jG (Kd.jG (Kd.jG (Kd.jG ho0 (Kd.R_lt (rR_ HO_7))) (Kd.R_lt (rR_ HO_8))) (Kd.R_lt (rR_ HO_10))) (Kd.R_lt (rR_ HO544))) (Kd.R_lt (rR_ HO551))) (jB (bb_ HB)))
                     have n6_ := bs_ HB hb
                     clear HO_7
                     clear HO_8
                     clear HO_10
                     clear HO544
                     clear HO551
                     clear HB
                     have HO_7 := n0_
                     have HO_8 := n1_
                     have HO_10 := n2_
                     have HO544 := n3_
                     have HO551 := n4_
                     have HO547 := n5_
                     have HB := n6_
                     clear n0_ n1_ n2_ n3_ n4_ n5_ n6_
                     (try clear hb)
                     (try clear hb2)
                     (try clear hk)
                     (try clear hi)
                     (try clear ho0)
                     refine hK.out _ _ (HS0_) (fun hHeld => ?_)
                     clear hK K
                     refine ns_ 71 ?_
                     exact jBR (by simp only [jAX, Act.put, ss_]) (hCont (.slice Ao49 y542.length co49, v546, v550) _ ⟨hHeld, (by refine pR_ ?_; exact Kd.jO HO544.out (fun _ hk => ⟨hk.2, ⟨hk.1.2, ⟨hk.1.1.2, ⟨hk.1.1.1.1.2, hk.1.1.1.2⟩⟩⟩⟩)), (by refine pR_ ?_; exact Kd.jO HO547.out (fun _ hk => ⟨hk.1.2, ⟨hk.2, ⟨hk.1.1.2, ⟨hk.1.1.1.1.2, hk.1.1.1.2⟩⟩⟩⟩)), (by refine pR_ ?_; exact Kd.jO HO551.out (fun _ hk => ⟨hk.1.2, ⟨hk.2, ⟨hk.1.1.2, ⟨hk.1.1.1.1.2, hk.1.1.1.2⟩⟩⟩⟩)), (by refine pR_ ?_; exact Kd.jO HO_10.out (fun _ hk => ⟨hk.1.1.2, ⟨hk.2, ⟨hk.1.2, ⟨hk.1.1.1.1, hk.1.1.1.2⟩⟩⟩⟩)), (by refine pR_ ?_; exact Kd.jO HO_7.out (fun _ hk => ⟨hk.1.1.2, ⟨hk.2, ⟨hk.1.2, ⟨hk.1.1.1.2, hk.1.1.1.1⟩⟩⟩⟩)), (by refine pR_ ?_; exact Kd.jO HO_8.out (fun _ hk => ⟨hk.1.1.2, ⟨hk.2, ⟨hk.1.2, ⟨hk.1.1.1.2, hk.1.1.1.1⟩⟩⟩⟩)), (bb_ HB)⟩)
                   ·
                    skip
                    refine Kd.qm (Kd.int .u64) _ 22 ?hg (N := 76) ?hd (xs := ([rd t527 x11_4] : List Int)) (inner := [.int .u64 (rd t527 x11_4)]) (ok := fun _ => True) (okp := fun _ => True) ?hr ?hp (fun _ hk => hk) trivial (Below.refl _ _) (Nat.le_refl _) (by simp) ?_; (case hd => rfl); (case hg => rfl); (case hr => exact gs_); (case hp => exact (Reps.one (show Kd.M (Kd.int .u64) _ _ _ (rd t527 x11_4) [.int .u64 (rd t527 x11_4)] from rfl) (Reps.none _ _)))
                    intro v550 w45 ho46 hb hg_ hnew_
                    have HS0_ := (hb.cell (World.block_lt_of_cell? _ _ (hHeld))).trans (hHeld)
                    clear hg_ hnew_
                    (first | rw [← Ny549.out] at ho46 | (simp only [Int.reduceToNat] at ho46; rw [← Ny549.out] at ho46))
                    have n0_ := re_ HO_7 ho46 hb
                    have n1_ := re_ HO_8 ho46 hb
                    have n2_ := re_ HO_10 ho46 hb
                    have n3_ := jA.mk (Kd.jL (Kd.jG (Kd.jG (Kd.jG ho46 (Kd.R_lt (rR_ HO_7))) (Kd.R_lt (rR_ HO_8))) (Kd.R_lt (rR_ HO_10))) (jB (bb_ HB)))
                    have n4_ := bs_ HB hb
                    clear HO_7
                    clear HO_8
                    clear HO_10
                    clear HB
                    have HO_7 := n0_
                    have HO_8 := n1_
                    have HO_10 := n2_
                    have HO551 := n3_
                    have HB := n4_
                    clear n0_ n1_ n2_ n3_ n4_
                    clear hb ho46
                    refine hK.out _ _ (HS0_) (fun hHeld => ?_)
                    clear hK K
                    refine ns_ 76 ?_
                    refine one_ (i := 1) (N := some 70) (ba_ 10 251) rfl rfl (ql HT_.out kr_) (by decide) (fun K hK => ?_)
                    refine Kd.qm (Kd.int .u64) _ 22 ?hg (N := 70) ?hd (xs := ([4294967296] : List Int)) (inner := [.int .u64 4294967296]) (ok := fun _ => True) (okp := fun _ => True) ?hr ?hp (fun _ hk => hk) trivial (Below.refl _ _) (Nat.le_refl _) (by simp) ?_; (case hd => rfl); (case hg => rfl); (case hr => exact gs_); (case hp => exact (Reps.one (show Kd.M (Kd.int .u64) _ _ _ 4294967296 [.int .u64 4294967296] from rfl) (Reps.none _ _)))
                    intro v543 w47 ho48 hb hg_ hnew_
                    have HS0_ := (hb.cell (World.block_lt_of_cell? _ _ (hHeld))).trans (hHeld)
                    clear hg_ hnew_
                    (first | rw [← Ny542.out] at ho48 | (simp only [Int.reduceToNat] at ho48; rw [← Ny542.out] at ho48))
                    have n0_ := re_ HO_7 ho48 hb
                    have n1_ := re_ HO_8 ho48 hb
                    have n2_ := re_ HO_10 ho48 hb
                    have n3_ := re_ HO551 ho48 hb
                    have n4_ := jA.mk (Kd.jL (Kd.jG (Kd.jG (Kd.jG (Kd.jG ho48 (Kd.R_lt (rR_ HO_7))) (Kd.R_lt (rR_ HO_8))) (Kd.R_lt (rR_ HO_10))) (Kd.R_lt (rR_ HO551))) (jB (bb_ HB)))
                    have n5_ := bs_ HB hb
                    clear HO_7
                    clear HO_8
                    clear HO_10
                    clear HO551
                    clear HB
                    have HO_7 := n0_
                    have HO_8 := n1_
                    have HO_10 := n2_
                    have HO551 := n3_
                    have HO544 := n4_
                    have HB := n5_
                    clear n0_ n1_ n2_ n3_ n4_ n5_
                    clear hb ho48
                    obtain ⟨Ao49, co49, eo49⟩ := Kd.jP HO544.out
                    (first | subst eo49 | (injection eo49 with f1_ f2_ f3_; have f4_ := f1_.symm; have f5_ := f3_.symm; clear f1_ f2_ f3_; subst f4_; subst f5_))
                    refine hK.out _ _ (HS0_) (fun hHeld => ?_)
                    clear hK K
                    refine ns_ 70 ?_
                    refine one_ (i := 2) (N := some 71) (ba_ 10 255) rfl rfl (ql HT_.out kr_) (by decide) (fun K hK => ?_)
                    refine jAs Try.func23 kr_ rfl #[.slice Ao43 x10_4.length co43, .slice Ao49 y542.length co49] (by rfl) rfl rfl (by (try simp only [List.map_toArray, List.map_cons, List.map_nil]); first | done | rfl | (simp only [List.length_drop, List.length_take]; rfl)) ?_
                    with_reducible refine (jF.calls k4 _ _ x10_4 _ _ y542 t545 _ ?side1 ?side2 ?side3 ?side4 A32.out).mono ?_
                    (case side1 => exact cc_ (Kd.jC HO_10.out).2.2)
                    (case side2 => exact (Kd.jC HO_10.out).2.1)
                    (case side3 => exact cc_ (Kd.jC HO544.out).2.2)
                    (case side4 => exact (Kd.jC HO544.out).2.1)
                    rintro e w50 ⟨v546, rfl, ho0, hb⟩
                    have HS0_ := (hb.cell (World.block_lt_of_cell? _ _ (hHeld))).trans (hHeld)
                    refine ⟨_, rfl, ?_⟩
                    have n0_ := re_ HO_7 ho0 hb
                    have n1_ := re_ HO_8 ho0 hb
                    have n2_ := re_ HO_10 ho0 hb
                    have n3_ := re_ HO551 ho0 hb
                    have n4_ := re_ HO544 ho0 hb
                    have n5_ := jA.mk (Kd.jL (Kd.jG (Kd.jG (Kd.jG (Kd.jG (Kd.jG ho0 (Kd.R_lt (rR_ HO_7))) (Kd.R_lt (rR_ HO_8))) (Kd.R_lt (rR_ HO_10))) (Kd.R_lt (rR_ HO551))) (Kd.R_lt (rR_ HO544))) (jB (bb_ HB)))
                    have n6_ := bs_ HB hb
                    clear HO_7
                    clear HO_8
                    clear HO_10
                    clear HO551
                    clear HO544
                    clear HB
                    have HO_7 := n0_
                    have HO_8 := n1_
                    have HO_10 := n2_
                    have HO551 := n3_
                    have HO544 := n4_
                    have HO547 := n5_
                    have HB := n6_
                    clear n0_ n1_ n2_ n3_ n4_ n5_ n6_
                    (try clear hb)
                    (try clear hb2)
                    (try clear hk)
                    (try clear hi)
                    (try clear ho0)
                    refine hK.out _ _ (HS0_) (fun hHeld => ?_)
                    clear hK K
                    refine ns_ 71 ?_
                    exact jBR (by simp only [jAX, Act.put, ss_]) (hCont (.slice Ao49 y542.length co49, v546, v550) _ ⟨hHeld, (by refine pR_ ?_; exact Kd.jO HO544.out (fun _ hk => ⟨hk.2, ⟨hk.1.2, ⟨hk.1.1.2, ⟨hk.1.1.1.1.2, hk.1.1.1.2⟩⟩⟩⟩)), (by refine pR_ ?_; exact Kd.jO HO547.out (fun _ hk => ⟨hk.2, ⟨hk.1.2, ⟨hk.1.1.2, ⟨hk.1.1.1.1.2, hk.1.1.1.2⟩⟩⟩⟩)), (by refine pR_ ?_; exact Kd.jO HO551.out (fun _ hk => ⟨hk.1.2, ⟨hk.2, ⟨hk.1.1.2, ⟨hk.1.1.1.1.2, hk.1.1.1.2⟩⟩⟩⟩)), (by refine pR_ ?_; exact Kd.jO HO_10.out (fun _ hk => ⟨hk.1.2, ⟨hk.2, ⟨hk.1.1.2, ⟨hk.1.1.1.1, hk.1.1.1.2⟩⟩⟩⟩)), (by refine pR_ ?_; exact Kd.jO HO_7.out (fun _ hk => ⟨hk.1.2, ⟨hk.2, ⟨hk.1.1.2, ⟨hk.1.1.1.2, hk.1.1.1.1⟩⟩⟩⟩)), (by refine pR_ ?_; exact Kd.jO HO_8.out (fun _ hk => ⟨hk.1.2, ⟨hk.2, ⟨hk.1.1.2, ⟨hk.1.1.1.2, hk.1.1.1.1⟩⟩⟩⟩)), (bb_ HB)⟩)
                  rintro ⟨v543, v546, v550⟩ w51 ⟨hS_, h0_, h1_, h2_, h3_, h4_, h5_, h6_⟩
                  have n0_ : jA (Kd.R (Kd.int .u64) 22 w51 w.heap.size (fun k_ => some k_ ≠ (v546 : Value).ownBlock ∧ some k_ ≠ (v550 : Value).ownBlock ∧ some k_ ≠ (.slice Ao43 x10_4.length co43 : Value).ownBlock ∧ some k_ ≠ (.slice (some ad548) t527.length co28 : Value).ownBlock ∧ some k_ ≠ (u8 : Value).ownBlock) v543 y542) := ⟨h0_⟩
                  have n1_ : jA (Kd.R (Kd.int .u64) 22 w51 w.heap.size (fun k_ => some k_ ≠ (v543 : Value).ownBlock ∧ some k_ ≠ (v550 : Value).ownBlock ∧ some k_ ≠ (.slice Ao43 x10_4.length co43 : Value).ownBlock ∧ some k_ ≠ (.slice (some ad548) t527.length co28 : Value).ownBlock ∧ some k_ ≠ (u8 : Value).ownBlock) v546 t545) := ⟨h1_⟩
                  have n2_ : jA (Kd.R (Kd.int .u64) 22 w51 w.heap.size (fun k_ => some k_ ≠ (v543 : Value).ownBlock ∧ some k_ ≠ (v546 : Value).ownBlock ∧ some k_ ≠ (.slice Ao43 x10_4.length co43 : Value).ownBlock ∧ some k_ ≠ (.slice (some ad548) t527.length co28 : Value).ownBlock ∧ some k_ ≠ (u8 : Value).ownBlock) v550 y549) := ⟨h2_⟩
                  have n3_ : jA (Kd.R (Kd.int .u64) 22 w51 w.heap.size (fun k_ => some k_ ≠ (v543 : Value).ownBlock ∧ some k_ ≠ (v546 : Value).ownBlock ∧ some k_ ≠ (v550 : Value).ownBlock ∧ some k_ ≠ (.slice (some ad548) t527.length co28 : Value).ownBlock ∧ some k_ ≠ (u8 : Value).ownBlock) (.slice Ao43 x10_4.length co43) x10_4) := ⟨h3_⟩
                  have n4_ : jA (Kd.R (Kd.int .u64) 22 w51 w.heap.size (fun k_ => some k_ ≠ (v543 : Value).ownBlock ∧ some k_ ≠ (v546 : Value).ownBlock ∧ some k_ ≠ (v550 : Value).ownBlock ∧ some k_ ≠ (.slice Ao43 x10_4.length co43 : Value).ownBlock ∧ some k_ ≠ (u8 : Value).ownBlock) (.slice (some ad548) t527.length co28) t527) := ⟨h4_⟩
                  have n5_ : jA (Kd.R (Kd.int .u64) 22 w51 w.heap.size (fun k_ => some k_ ≠ (v543 : Value).ownBlock ∧ some k_ ≠ (v546 : Value).ownBlock ∧ some k_ ≠ (v550 : Value).ownBlock ∧ some k_ ≠ (.slice Ao43 x10_4.length co43 : Value).ownBlock ∧ some k_ ≠ (.slice (some ad548) t527.length co28 : Value).ownBlock) u8 x8_4) := ⟨h5_⟩
                  have n6_ : jA (Below w.heap.size w w51) := ⟨h6_⟩
                  clear HO_7
                  clear HO_8
                  clear HO_10
                  clear HB
                  clear h0_ h1_ h2_ h3_ h4_ h5_ h6_
                  have HO544 := n0_
                  have HO547 := n1_
                  have HO551 := n2_
                  have HO_10 := n3_
                  have HO_7 := n4_
                  have HO_8 := n5_
                  have HB := n6_
                  clear n0_ n1_ n2_ n3_ n4_ n5_ n6_
                  have hHeld : w51.cell? (ad548.add (x11_4).toNat) = some (.int .u64 (rd t527 x11_4)) := hS_
                  obtain ⟨Ao52, co52, eo52⟩ := Kd.jP HO547.out
                  (first | subst eo52 | (injection eo52 with f1_ f2_ f3_; have f4_ := f1_.symm; have f5_ := f3_.symm; clear f1_ f2_ f3_; subst f4_; subst f5_))
                  obtain ⟨Ao53, co53, eo53⟩ := Kd.jP HO551.out
                  (first | subst eo53 | (injection eo53 with f1_ f2_ f3_; have f4_ := f1_.symm; have f5_ := f3_.symm; clear f1_ f2_ f3_; subst f4_; subst f5_))
                  refine jBR (a' := ?_) ?_ ?_
                  rotate_left
                  ·
                   simp only [jAX, Act.put, ss_]
                   rfl
                  refine one_ (i := 8) (N := some 77) (ba_ 10 511) rfl rfl (ql HT_.out kr_) (by decide) (fun K hK => ?_)
                  refine jAs Try.func102 kr_ rfl #[.slice Ao52 t545.length co52, .slice Ao53 y549.length co53] (by rfl) rfl rfl (by (try simp only [List.map_toArray, List.map_cons, List.map_nil]); first | done | rfl | (simp only [List.length_drop, List.length_take]; rfl)) ?_
                  with_reducible refine (jQ.calls k4 _ _ t545 _ _ y549 t552 _ ?side1 ?side2 ?side3 ?side4 A35.out).mono ?_
                  (case side1 => exact cc_ (Kd.jC HO547.out).2.2)
                  (case side2 => exact (Kd.jC HO547.out).2.1)
                  (case side3 => exact cc_ (Kd.jC HO551.out).2.2)
                  (case side4 => exact (Kd.jC HO551.out).2.1)
                  rintro e w54 ⟨v553, rfl, ho0, hb⟩
                  have HS0_ := (hb.cell (World.block_lt_of_cell? _ _ (hHeld))).trans (hHeld)
                  refine ⟨_, rfl, ?_⟩
                  have n0_ := re_ HO_7 ho0 hb
                  have n1_ := re_ HO_8 ho0 hb
                  have n2_ := re_ HO_10 ho0 hb
                  have n3_ := re_ HO544 ho0 hb
                  have n4_ := re_ HO547 ho0 hb
                  have n5_ := re_ HO551 ho0 hb
                  have n6_ := jA.mk (Kd.jL (Kd.jG (Kd.jG (Kd.jG (Kd.jG (Kd.jG (Kd.jG ho0 (Kd.R_lt (rR_ HO_7))) (Kd.R_lt (rR_ HO_8))) (Kd.R_lt (rR_ HO_10))) (Kd.R_lt (rR_ HO544))) (Kd.R_lt (rR_ HO547))) (Kd.R_lt (rR_ HO551))) (jB (bb_ HB)))
                  have n7_ := bs_ HB hb
                  clear HO_7
                  clear HO_8
                  clear HO_10
                  clear HO544
                  clear HO547
                  clear HO551
                  clear HB
                  have HO_7 := n0_
                  have HO_8 := n1_
                  have HO_10 := n2_
                  have HO544 := n3_
                  have HO547 := n4_
                  have HO551 := n5_
                  have HO554 := n6_
                  have HB := n7_
                  clear n0_ n1_ n2_ n3_ n4_ n5_ n6_ n7_
                  (try clear hb)
                  (try clear hb2)
                  (try clear hk)
                  (try clear hi)
                  (try clear ho0)
                  refine hK.out _ _ (HS0_) (fun hHeld => ?_)
                  clear hK K
                  refine ns_ 77 ?_
                  refine pu_ 9 (some 10) (ba_ 10 1023) (vL HT_.out kr_) ?_
                  refine jBH (jAt HT_.out kr_) ?_
                  obtain ⟨Ao55, co55, eo55⟩ := Kd.jP HO554.out
                  subst eo55
                  try go_wp2_with (first | ((with_reducible refine jD (f := 103) rfl ?_); refine gl_ (some 80) Try.func103 #[.slice Ao55 t552.length co55, .slice A1 l1.length c1] ?_; (with_reducible refine (jU.calls k4 _ _ t552 _ _ l1 t555 _ ?side1 ?side2 ?side3 ?side4 A36.out).mono ?_); (case side1 => exact cc_ (Kd.jC HO554.out).2.2); (case side2 => exact (Kd.jC HO554.out).2.1); (case side3 => exact cb_ HR1 HB); (case side4 => exact HC1.out); rintro e w56 ⟨rfl, hb⟩; refine ⟨_, rfl, ?_⟩; replace HO_7 := ro_ HO_7 hb; replace HO_8 := ro_ HO_8 hb; replace HO_10 := ro_ HO_10 hb; replace HO544 := ro_ HO544 hb; replace HO547 := ro_ HO547 hb; replace HO551 := ro_ HO551 hb; replace HO554 := ro_ HO554 hb; replace HB := bs_ HB hb) | ((with_reducible refine jD (f := 104) rfl ?_); refine gl_ (some 86) Try.func104 #[.slice Ao55 t552.length co55, .slice A1 l1.length c1] ?_; (with_reducible refine (jf.calls k4 _ _ t552 _ _ l1 t556 _ ?side1 ?side2 ?side3 ?side4 A38.out).mono ?_); (case side1 => exact cc_ (Kd.jC HO554.out).2.2); (case side2 => exact (Kd.jC HO554.out).2.1); (case side3 => exact cb_ HR1 HB); (case side4 => exact HC1.out); rintro e w57 ⟨rfl, hb⟩; refine ⟨_, rfl, ?_⟩; replace HO_7 := ro_ HO_7 hb; replace HO_8 := ro_ HO_8 hb; replace HO_10 := ro_ HO_10 hb; replace HO544 := ro_ HO544 hb; replace HO547 := ro_ HO547 hb; replace HO551 := ro_ HO551 hb; replace HO554 := ro_ HO554 hb; replace HB := bs_ HB hb; have p40 : 0 ≤ (x11_4 : Int) := of_decide_eq_true am_; have q40 : (x11_4 : Int) < ((x8_4.length : Int) : Int) := of_decide_eq_true am_; obtain ⟨go40, co40, eo40, gb40, gl40, cl40, HG40⟩ := Kd.jAC HO_8.out (by omega); (first | cases eo40 | (injection eo40 with ea_ en_ ec_; (first | subst ea_ | (injection ea_ with ea_; subst ea_)); subst ec_; clear en_)); have GB40 := jA.mk gb40; have GG40 := jA.mk HG40; clear gb40 gl40 HG40; obtain ⟨hx40_0, hf40_0⟩ := Kd.zY 0 HO_8.out (x11_4 : Int) p40 q40; replace p40 := eq_true p40; replace q40 := eq_true q40; have n_ := jA.mk (Kd.jO (ok' := (fun k_ => some k_ ≠ (.slice (some ad548) t527.length co28 : Value).ownBlock ∧ some k_ ≠ (.slice Ao43 x10_4.length co43 : Value).ownBlock ∧ some k_ ≠ (v543 : Value).ownBlock ∧ some k_ ≠ (.slice Ao52 t545.length co52 : Value).ownBlock ∧ some k_ ≠ (.slice Ao53 y549.length co53 : Value).ownBlock ∧ some k_ ≠ (.slice Ao55 t552.length co55 : Value).ownBlock)) HO_8.out (fun k_ hk => ⟨hk.1.2.2.2.2, ⟨hk.1.2.2.2.1, ⟨hk.1.1, ⟨hk.1.2.1, ⟨hk.1.2.2.1, hk.2⟩⟩⟩⟩⟩)); clear HO_8; have HO_8 := n_; clear n_; obtain ⟨hy58_, hz58_⟩ := Kd.zY 0 HO_8.out (x11_4 : Int) (of_decide_eq_true am_) (of_decide_eq_true am_); have HP58 := Kd.qz HO_8.out (x11_4 : Int) t556) | ((with_reducible refine zu (t := 22) (p := 87) rfl ?_); refine zi (t := 22) (p := 87) (v := ?vo_w59) (w1 := (w57.setCell ⟨go40, (x11_4 : Int).toNat, none⟩ (.int .u64 t556))) ?hg ?ho ?hn ?hr ?_; (case ho => rfl); (case hg => rfl); (case hn => rfl); (case hr => exact gs_); intro w59 hw; have hg : w57.grownBy w59 (some go40) := (by rw [hw]; exact HP58.2); have hp_ : Kd.R (Kd.int .u64) 22 w59 w.heap.size (fun k_ => some k_ ≠ (.slice (some ad548) t527.length co28 : Value).ownBlock ∧ some k_ ≠ (.slice Ao43 x10_4.length co43 : Value).ownBlock ∧ some k_ ≠ (v543 : Value).ownBlock ∧ some k_ ≠ (.slice Ao52 t545.length co52 : Value).ownBlock ∧ some k_ ≠ (.slice Ao53 y549.length co53 : Value).ownBlock ∧ some k_ ≠ (.slice Ao55 t552.length co55 : Value).ownBlock) (.slice (some ⟨go40, 0, none⟩) x8_4.length co40) y557 := (by rw [hw, Ny557.out]; exact HP58.1); clear HP58; replace HO_7 := jA.mk (Kd.zh (v := (.slice (some ⟨go40, 0, none⟩) x8_4.length co40)) (v1 := (.slice (some ⟨go40, 0, none⟩) x8_4.length co40)) (ok := (fun k_ => some k_ ≠ (.slice Ao43 x10_4.length co43 : Value).ownBlock ∧ some k_ ≠ (v543 : Value).ownBlock ∧ some k_ ≠ (.slice Ao52 t545.length co52 : Value).ownBlock ∧ some k_ ≠ (.slice Ao53 y549.length co53 : Value).ownBlock ∧ some k_ ≠ (.slice Ao55 t552.length co55 : Value).ownBlock)) (by refine pR_ ?_; exact Kd.jO HO_7.out (fun _ hk => ⟨⟨hk.1.2.2.2.1, ⟨hk.1.1, ⟨hk.1.2.1, ⟨hk.1.2.2.1, hk.2⟩⟩⟩⟩, hk.1.2.2.2.2⟩)) hg (.inl rfl)); replace HO_8 := jA.mk (hp_); replace HO_10 := jA.mk (Kd.zh (v := (.slice (some ⟨go40, 0, none⟩) x8_4.length co40)) (v1 := (.slice (some ⟨go40, 0, none⟩) x8_4.length co40)) (ok := (fun k_ => some k_ ≠ (.slice (some ad548) t527.length co28 : Value).ownBlock ∧ some k_ ≠ (v543 : Value).ownBlock ∧ some k_ ≠ (.slice Ao52 t545.length co52 : Value).ownBlock ∧ some k_ ≠ (.slice Ao53 y549.length co53 : Value).ownBlock ∧ some k_ ≠ (.slice Ao55 t552.length co55 : Value).ownBlock)) (by refine pR_ ?_; exact Kd.jO HO_10.out (fun _ hk => ⟨⟨hk.1.2.2.2.1, ⟨hk.1.1, ⟨hk.1.2.1, ⟨hk.1.2.2.1, hk.2⟩⟩⟩⟩, hk.1.2.2.2.2⟩)) hg (.inl rfl)); replace HO544 := jA.mk (Kd.zh (v := (.slice (some ⟨go40, 0, none⟩) x8_4.length co40)) (v1 := (.slice (some ⟨go40, 0, none⟩) x8_4.length co40)) (ok := (fun k_ => some k_ ≠ (.slice (some ad548) t527.length co28 : Value).ownBlock ∧ some k_ ≠ (.slice Ao43 x10_4.length co43 : Value).ownBlock ∧ some k_ ≠ (.slice Ao52 t545.length co52 : Value).ownBlock ∧ some k_ ≠ (.slice Ao53 y549.length co53 : Value).ownBlock ∧ some k_ ≠ (.slice Ao55 t552.length co55 : Value).ownBlock)) (by refine pR_ ?_; exact Kd.jO HO544.out (fun _ hk => ⟨⟨hk.1.2.2.2.1, ⟨hk.1.2.2.1, ⟨hk.1.1, ⟨hk.1.2.1, hk.2⟩⟩⟩⟩, hk.1.2.2.2.2⟩)) hg (.inl rfl)); replace HO547 := jA.mk (Kd.zh (v := (.slice (some ⟨go40, 0, none⟩) x8_4.length co40)) (v1 := (.slice (some ⟨go40, 0, none⟩) x8_4.length co40)) (ok := (fun k_ => some k_ ≠ (.slice (some ad548) t527.length co28 : Value).ownBlock ∧ some k_ ≠ (.slice Ao43 x10_4.length co43 : Value).ownBlock ∧ some k_ ≠ (v543 : Value).ownBlock ∧ some k_ ≠ (.slice Ao53 y549.length co53 : Value).ownBlock ∧ some k_ ≠ (.slice Ao55 t552.length co55 : Value).ownBlock)) (by refine pR_ ?_; exact Kd.jO HO547.out (fun _ hk => ⟨⟨hk.1.2.2.2.1, ⟨hk.1.2.2.1, ⟨hk.1.1, ⟨hk.1.2.1, hk.2⟩⟩⟩⟩, hk.1.2.2.2.2⟩)) hg (.inl rfl)); replace HO551 := jA.mk (Kd.zh (v := (.slice (some ⟨go40, 0, none⟩) x8_4.length co40)) (v1 := (.slice (some ⟨go40, 0, none⟩) x8_4.length co40)) (ok := (fun k_ => some k_ ≠ (.slice (some ad548) t527.length co28 : Value).ownBlock ∧ some k_ ≠ (.slice Ao43 x10_4.length co43 : Value).ownBlock ∧ some k_ ≠ (v543 : Value).ownBlock ∧ some k_ ≠ (.slice Ao52 t545.length co52 : Value).ownBlock ∧ some k_ ≠ (.slice Ao55 t552.length co55 : Value).ownBlock)) (by refine pR_ ?_; exact Kd.jO HO551.out (fun _ hk => ⟨⟨hk.1.2.2.2.1, ⟨hk.1.2.2.1, ⟨hk.1.1, ⟨hk.1.2.1, hk.2⟩⟩⟩⟩, hk.1.2.2.2.2⟩)) hg (.inl rfl)); replace HO554 := jA.mk (Kd.zh (v := (.slice (some ⟨go40, 0, none⟩) x8_4.length co40)) (v1 := (.slice (some ⟨go40, 0, none⟩) x8_4.length co40)) (ok := (fun k_ => some k_ ≠ (.slice (some ad548) t527.length co28 : Value).ownBlock ∧ some k_ ≠ (.slice Ao43 x10_4.length co43 : Value).ownBlock ∧ some k_ ≠ (v543 : Value).ownBlock ∧ some k_ ≠ (.slice Ao52 t545.length co52 : Value).ownBlock ∧ some k_ ≠ (.slice Ao53 y549.length co53 : Value).ownBlock)) (by refine pR_ ?_; exact Kd.jO HO554.out (fun _ hk => ⟨⟨hk.1.1.1.1.1.2, ⟨hk.1.1.1.2, ⟨hk.1.1.2, ⟨hk.1.2, hk.2⟩⟩⟩⟩, hk.1.1.1.1.2⟩)) hg (.inl rfl)); replace HB := jA.mk ((by rw [hw]; exact vX (HB.out) GB40.out : Below w.heap.size w w59)); clear hg hw hp_; have p558 : 0 ≤ (x11_4 : Int) := of_decide_eq_true am_; have q558 : x11_4 < (y557.length : Int) := (by have h_ : (x11_4 : Int) < ((x8_4.length : Int) : Int) := of_decide_eq_true am_; first | (have e_ := (Kd.jC HO_8.out).1; omega) | simpa only [Ny557.out, List.length_set] using h_); have ql558 : ((x11_4 : Int) < ((x8_4.length : Int) : Int)) = True := eq_true (of_decide_eq_true am_); obtain ⟨ad558, e558, hx558_0⟩ := Kd.zJ (Kd.jC HO_8.out).2.2 x11_4 p558 q558; obtain rfl : (⟨go40, 0, none⟩ : Addr) = ad558 := (by injection e558); (first | simp only [add_plain] at hx558_0 | simp only [jGS] at hx558_0 | simp only [Addr.add, Nat.zero_add] at hx558_0 | skip); replace p558 := eq_true p558; replace q558 := eq_true q558) | ((with_reducible refine jW (N := 95) rfl ?_); (try (refine je (by rfl) ?_; dsimp only)); refine Kd.qy (Kd.int .u64) _ 22 ?hg (N := 95) ?hd (xs := ([rd y557 x11_4] : List Int)) (inner := [.int .u64 (rd y557 x11_4)]) (ok := fun _ => True) (okp := fun _ => True) ?hr ?hp (fun _ hk => hk) trivial (Below.refl _ _) (Nat.le_refl _) (by simp) ?_; (case hd => rfl); (case hg => rfl); (case hr => exact gs_); (case hp => exact (Reps.one (show Kd.M (Kd.int .u64) _ _ _ (rd y557 x11_4) [.int .u64 (rd y557 x11_4)] from rfl) (Reps.none _ _))); intro v560 w60 ho61 hb hg_ hnew_; clear hg_ hnew_; (first | rw [← Ny559.out] at ho61 | (simp only [Int.reduceToNat] at ho61; rw [← Ny559.out] at ho61)); have HO561 := jA.mk (Kd.jL (Kd.jG (Kd.jG (Kd.jG (Kd.jG (Kd.jG (Kd.jG (Kd.jG ho61 (Kd.R_lt (rR_ HO_7))) (Kd.R_lt (rR_ HO_8))) (Kd.R_lt (rR_ HO_10))) (Kd.R_lt (rR_ HO544))) (Kd.R_lt (rR_ HO547))) (Kd.R_lt (rR_ HO551))) (Kd.R_lt (rR_ HO554))) (jB (bb_ HB))); replace HO_7 := re_ HO_7 ho61 hb; replace HO_8 := re_ HO_8 ho61 hb; replace HO_10 := re_ HO_10 ho61 hb; replace HO544 := re_ HO544 ho61 hb; replace HO547 := re_ HO547 ho61 hb; replace HO551 := re_ HO551 ho61 hb; replace HO554 := re_ HO554 ho61 hb; replace HB := bs_ HB hb; clear hb ho61; obtain ⟨Ao62, co62, rfl⟩ := Kd.jP HO561.out) | ((with_reducible refine jD (f := 23) rfl ?_); refine gl_ (some 96) Try.func23 #[.slice A1 l1.length c1, .slice Ao62 y559.length co62] ?_; (with_reducible refine (jF.calls k4 _ _ l1 _ _ y559 t562 _ ?side1 ?side2 ?side3 ?side4 A41.out).mono ?_); (case side1 => exact cb_ HR1 HB); (case side2 => exact HC1.out); (case side3 => exact cc_ (Kd.jC HO561.out).2.2); (case side4 => exact (Kd.jC HO561.out).2.1); rintro e w63 ⟨v563, rfl, ho0, hb⟩; refine ⟨_, rfl, ?_⟩; have HO564 := jA.mk (Kd.jL (Kd.jG (Kd.jG (Kd.jG (Kd.jG (Kd.jG (Kd.jG (Kd.jG (Kd.jG ho0 (Kd.R_lt (rR_ HO_7))) (Kd.R_lt (rR_ HO_8))) (Kd.R_lt (rR_ HO_10))) (Kd.R_lt (rR_ HO544))) (Kd.R_lt (rR_ HO547))) (Kd.R_lt (rR_ HO551))) (Kd.R_lt (rR_ HO554))) (Kd.R_lt (rR_ HO561))) (jB (bb_ HB))); replace HO_7 := re_ HO_7 ho0 hb; replace HO_8 := re_ HO_8 ho0 hb; replace HO_10 := re_ HO_10 ho0 hb; replace HO544 := re_ HO544 ho0 hb; replace HO547 := re_ HO547 ho0 hb; replace HO551 := re_ HO551 ho0 hb; replace HO554 := re_ HO554 ho0 hb; replace HO561 := re_ HO561 ho0 hb; replace HB := bs_ HB hb; obtain ⟨Ao64, co64, rfl⟩ := Kd.jP HO564.out) | ((with_reducible refine jD (f := 105) rfl ?_); refine gl_ (some 97) Try.func105 #[.slice Ao55 t552.length co55, .slice Ao64 t562.length co64] ?_; (with_reducible refine (jZ.calls k4 _ _ t552 _ _ t562 t565 t566 _ ?side1 ?side2 ?side3 ?side4 A42.out).mono ?_); (case side1 => exact cc_ (Kd.jC HO554.out).2.2); (case side2 => exact (Kd.jC HO554.out).2.1); (case side3 => exact cc_ (Kd.jC HO564.out).2.2); (case side4 => exact (Kd.jC HO564.out).2.1); rintro e w65 ⟨v567, rfl, ho0, hb⟩; refine ⟨_, rfl, ?_⟩; have HO568 := jA.mk (Kd.jL (Kd.jG (Kd.jG (Kd.jG (Kd.jG (Kd.jG (Kd.jG (Kd.jG (Kd.jG (Kd.jG ho0 (Kd.R_lt (rR_ HO_7))) (Kd.R_lt (rR_ HO_8))) (Kd.R_lt (rR_ HO_10))) (Kd.R_lt (rR_ HO544))) (Kd.R_lt (rR_ HO547))) (Kd.R_lt (rR_ HO551))) (Kd.R_lt (rR_ HO554))) (Kd.R_lt (rR_ HO561))) (Kd.R_lt (rR_ HO564))) (jB (bb_ HB))); replace HO_7 := re_ HO_7 ho0 hb; replace HO_8 := re_ HO_8 ho0 hb; replace HO_10 := re_ HO_10 ho0 hb; replace HO544 := re_ HO544 ho0 hb; replace HO547 := re_ HO547 ho0 hb; replace HO551 := re_ HO551 ho0 hb; replace HO554 := re_ HO554 ho0 hb; replace HO561 := re_ HO561 ho0 hb; replace HO564 := re_ HO564 ho0 hb; replace HB := bs_ HB hb))
                  go_roundg k4
                  case measure => have := HJ2.out; have := HJ8.out; have := HK3.out; have := HK4.out; omega
                  case rel => exact ⟨(y557), (t565), (wrap64 (x11_4 - 1)), sd_, H', ⟨by have := HJ2.out; have := HJ8.out; have := HK3.out; have := HK4.out; omega⟩, ⟨by (with_reducible repeat (first | apply Kd.zG | apply Kd.zM | apply Kd.zP)); exact Kd.jO HO_7.out (fun _ hk => ⟨hk.1.1.1.2, hk.2⟩)⟩, ⟨by (with_reducible repeat (first | apply Kd.zG | apply Kd.zM | apply Kd.zP)); exact Kd.jO HO_8.out (fun _ hk => ⟨hk.1.1.1.1, hk.2⟩)⟩, ⟨by (with_reducible repeat (first | apply Kd.zG | apply Kd.zM | apply Kd.zP)); exact Kd.jO HO568.out (fun _ hk => ⟨hk.1.1.1.1.1.1.1.1.2, hk.1.1.1.1.1.1.1.2⟩)⟩, ⟨(bb_ HB)⟩⟩
                 ·
                  rw [if_neg c39] at H
                  exact absurd H (by simp)
                ·
                 rw [if_neg c37] at H
                 have c37b0 := decide_eq_false c37
                 clear c37
                 have H' := jA.mk H
                 clear H
                 obtain ⟨Ao66, co66, eo66⟩ := Kd.jP HO_10.out
                 subst eo66
                 try go_wp2
                 have n0_ := jA.mk (Kd.zP HO_7.out)
                 have n1_ := jA.mk (Kd.zP HO_8.out)
                 have n2_ := jA.mk (Kd.zP HO_10.out)
                 have n3_ := jA.mk (zk HB.out)
                 clear HO_7
                 clear HO_8
                 clear HO_10
                 clear HB
                 have HO_7 := n0_
                 have HO_8 := n1_
                 have HO_10 := n2_
                 have HB := n3_
                 clear n0_ n1_ n2_ n3_
                 have p548 : 0 ≤ (x11_4 : Int) := of_decide_eq_true am_
                 have q548 : x11_4 < (t527.length : Int) := of_decide_eq_true am_
                 obtain ⟨ad548, e548, hx548_0⟩ := Kd.zJ (Kd.jC HO_7.out).2.2 x11_4 p548 q548
                 cases e548
                 replace p548 := eq_true p548
                 replace q548 := eq_true q548
                 refine jAk (n := 10) (S := fun w' => w'.cell? (ad548.add (x11_4).toNat) = some (.int .u64 (rd t527 x11_4))) (ds := []) #[false, false, false, false, false, false, false, false, false, false] kr_ rfl rfl (hx548_0) (fun hHeld => ?_); refine jAK jE.jIv jE.jHn (fun HT_ HW_ => ?_)
                 generalize wr.drew = w67 at HO_7 HO_8 HO_10 HB hx548_0 hHeld ⊢
                 refine pu_ 0 (some 69) (ba_ 10 1) (vL HT_.out kr_) ?_
                 refine pu_ 3 (some 72) (ba_ 10 9) (vL HT_.out kr_) ?_
                 refine pu_ 4 (some 73) (ba_ 10 25) (vL HT_.out kr_) ?_
                 refine pu_ 5 (some 74) (ba_ 10 57) (vL HT_.out kr_) ?_
                 refine tk1_ 6 (some 75) (ba_ 10 121) (qF HT_.out HW_.out kr_) hHeld ?_
                 refine jHN (σ := Value × Value × Value) 2 #[true, true, true, true, true, true, true, true, false, false] (fun s_ => [(70, s_.1), (71, s_.2.1), (76, s_.2.2)]) (fun s_ w' => (w'.cell? (ad548.add (x11_4).toNat) = some (.int .u64 (rd t527 x11_4))) ∧ (Kd.R (Kd.int .u64) 22 w' w.heap.size (fun k_ => some k_ ≠ (s_.2.1 : Value).ownBlock ∧ some k_ ≠ (s_.2.2 : Value).ownBlock ∧ some k_ ≠ (.slice Ao66 x10_4.length co66 : Value).ownBlock ∧ some k_ ≠ (.slice (some ad548) t527.length co28 : Value).ownBlock ∧ some k_ ≠ (u8 : Value).ownBlock) s_.1 y542) ∧ (Kd.R (Kd.int .u64) 22 w' w.heap.size (fun k_ => some k_ ≠ (s_.1 : Value).ownBlock ∧ some k_ ≠ (s_.2.2 : Value).ownBlock ∧ some k_ ≠ (.slice Ao66 x10_4.length co66 : Value).ownBlock ∧ some k_ ≠ (.slice (some ad548) t527.length co28 : Value).ownBlock ∧ some k_ ≠ (u8 : Value).ownBlock) s_.2.1 t545) ∧ (Kd.R (Kd.int .u64) 22 w' w.heap.size (fun k_ => some k_ ≠ (s_.1 : Value).ownBlock ∧ some k_ ≠ (s_.2.1 : Value).ownBlock ∧ some k_ ≠ (.slice Ao66 x10_4.length co66 : Value).ownBlock ∧ some k_ ≠ (.slice (some ad548) t527.length co28 : Value).ownBlock ∧ some k_ ≠ (u8 : Value).ownBlock) s_.2.2 y549) ∧ (Kd.R (Kd.int .u64) 22 w' w.heap.size (fun k_ => some k_ ≠ (s_.1 : Value).ownBlock ∧ some k_ ≠ (s_.2.1 : Value).ownBlock ∧ some k_ ≠ (s_.2.2 : Value).ownBlock ∧ some k_ ≠ (.slice (some ad548) t527.length co28 : Value).ownBlock ∧ some k_ ≠ (u8 : Value).ownBlock) (.slice Ao66 x10_4.length co66) x10_4) ∧ (Kd.R (Kd.int .u64) 22 w' w.heap.size (fun k_ => some k_ ≠ (s_.1 : Value).ownBlock ∧ some k_ ≠ (s_.2.1 : Value).ownBlock ∧ some k_ ≠ (s_.2.2 : Value).ownBlock ∧ some k_ ≠ (.slice Ao66 x10_4.length co66 : Value).ownBlock ∧ some k_ ≠ (u8 : Value).ownBlock) (.slice (some ad548) t527.length co28) t527) ∧ (Kd.R (Kd.int .u64) 22 w' w.heap.size (fun k_ => some k_ ≠ (s_.1 : Value).ownBlock ∧ some k_ ≠ (s_.2.1 : Value).ownBlock ∧ some k_ ≠ (s_.2.2 : Value).ownBlock ∧ some k_ ≠ (.slice Ao66 x10_4.length co66 : Value).ownBlock ∧ some k_ ≠ (.slice (some ad548) t527.length co28 : Value).ownBlock) u8 x8_4) ∧ (Below w.heap.size w w')) ?_ ?_
                 rotate_left
                 ·
                  intro hCont
                  refine two_ (i := 1) (j := 7) (Ni := some 70) (Nj := some 76) (ba_ 10 123) (ba_ 10 249) rfl rfl rfl rfl (jCi HT_.out kr_) (by decide) (by decide) (fun K hK => ?_) (fun K hK => ?_)
                  ·
                   skip
                   refine Kd.qm (Kd.int .u64) _ 22 ?hg (N := 70) ?hd (xs := ([4294967296] : List Int)) (inner := [.int .u64 4294967296]) (ok := fun _ => True) (okp := fun _ => True) ?hr ?hp (fun _ hk => hk) trivial (Below.refl _ _) (Nat.le_refl _) (by simp) ?_; (case hd => rfl); (case hg => rfl); (case hr => exact gs_); (case hp => exact (Reps.one (show Kd.M (Kd.int .u64) _ _ _ 4294967296 [.int .u64 4294967296] from rfl) (Reps.none _ _)))
                   intro v543 w68 ho69 hb hg_ hnew_
                   have HS0_ := (hb.cell (World.block_lt_of_cell? _ _ (hHeld))).trans (hHeld)
                   clear hg_ hnew_
                   (first | rw [← Ny542.out] at ho69 | (simp only [Int.reduceToNat] at ho69; rw [← Ny542.out] at ho69))
                   have n0_ := re_ HO_7 ho69 hb
                   have n1_ := re_ HO_8 ho69 hb
                   have n2_ := re_ HO_10 ho69 hb
                   have n3_ := jA.mk (Kd.jL (Kd.jG (Kd.jG (Kd.jG ho69 (Kd.R_lt (rR_ HO_7))) (Kd.R_lt (rR_ HO_8))) (Kd.R_lt (rR_ HO_10))) (jB (bb_ HB)))
                   have n4_ := bs_ HB hb
                   clear HO_7
                   clear HO_8
                   clear HO_10
                   clear HB
                   have HO_7 := n0_
                   have HO_8 := n1_
                   have HO_10 := n2_
                   have HO544 := n3_
                   have HB := n4_
                   clear n0_ n1_ n2_ n3_ n4_
                   clear hb ho69
                   obtain ⟨Ao70, co70, eo70⟩ := Kd.jP HO544.out
                   (first | subst eo70 | (injection eo70 with f1_ f2_ f3_; have f4_ := f1_.symm; have f5_ := f3_.symm; clear f1_ f2_ f3_; subst f4_; subst f5_))
                   refine hK.out _ _ (HS0_) (fun hHeld => ?_)
                   clear hK K
                   refine ns_ 70 ?_
                   refine two_ (i := 2) (j := 7) (Ni := some 71) (Nj := some 76) (ba_ 10 127) (ba_ 10 251) rfl rfl rfl rfl (jCi HT_.out kr_) (by decide) (by decide) (fun K hK => ?_) (fun K hK => ?_)
                   ·
                    skip
                    refine jAs Try.func23 kr_ rfl #[.slice Ao66 x10_4.length co66, .slice Ao70 y542.length co70] (by rfl) rfl rfl (by (try simp only [List.map_toArray, List.map_cons, List.map_nil]); first | done | rfl | (simp only [List.length_drop, List.length_take]; rfl)) ?_
                    with_reducible refine (jF.calls k4 _ _ x10_4 _ _ y542 t545 _ ?side1 ?side2 ?side3 ?side4 A32.out).mono ?_
                    (case side1 => exact cc_ (Kd.jC HO_10.out).2.2)
                    (case side2 => exact (Kd.jC HO_10.out).2.1)
                    (case side3 => exact cc_ (Kd.jC HO544.out).2.2)
                    (case side4 => exact (Kd.jC HO544.out).2.1)
                    rintro e w71 ⟨v546, rfl, ho0, hb⟩
                    have HS0_ := (hb.cell (World.block_lt_of_cell? _ _ (hHeld))).trans (hHeld)
                    refine ⟨_, rfl, ?_⟩
                    have n0_ := re_ HO_7 ho0 hb
                    have n1_ := re_ HO_8 ho0 hb
                    have n2_ := re_ HO_10 ho0 hb
                    have n3_ := re_ HO544 ho0 hb
                    have n4_ := jA.mk (Kd.jL (Kd.jG (Kd.jG (Kd.jG (Kd.jG ho0 (Kd.R_lt (rR_ HO_7))) (Kd.R_lt (rR_ HO_8))) (Kd.R_lt (rR_ HO_10))) (Kd.R_lt (rR_ HO544))) (jB (bb_ HB)))
                    have n5_ := bs_ HB hb
                    clear HO_7
                    clear HO_8
                    clear HO_10
                    clear HO544
                    clear HB
                    have HO_7 := n0_
                    have HO_8 := n1_
                    have HO_10 := n2_
                    have HO544 := n3_
                    have HO547 := n4_
                    have HB := n5_
                    clear n0_ n1_ n2_ n3_ n4_ n5_
                    (try clear hb)
                    (try clear hb2)
                    (try clear hk)
                    (try clear hi)
                    (try clear ho0)
                    refine hK.out _ _ (HS0_) (fun hHeld => ?_)
                    clear hK K
                    refine ns_ 71 ?_
                    refine one_ (i := 7) (N := some 76) (ba_ 10 255) rfl rfl (ql HT_.out kr_) (by decide) (fun K hK => ?_)
                    refine Kd.qm (Kd.int .u64) _ 22 ?hg (N := 76) ?hd (xs := ([rd t527 x11_4] : List Int)) (inner := [.int .u64 (rd t527 x11_4)]) (ok := fun _ => True) (okp := fun _ => True) ?hr ?hp (fun _ hk => hk) trivial (Below.refl _ _) (Nat.le_refl _) (by simp) ?_; (case hd => rfl); (case hg => rfl); (case hr => exact gs_); (case hp => exact (Reps.one (show Kd.M (Kd.int .u64) _ _ _ (rd t527 x11_4) [.int .u64 (rd t527 x11_4)] from rfl) (Reps.none _ _)))
                    intro v550 w72 ho73 hb hg_ hnew_
                    have HS0_ := (hb.cell (World.block_lt_of_cell? _ _ (hHeld))).trans (hHeld)
                    clear hg_ hnew_
                    (first | rw [← Ny549.out] at ho73 | (simp only [Int.reduceToNat] at ho73; rw [← Ny549.out] at ho73))
                    have n0_ := re_ HO_7 ho73 hb
                    have n1_ := re_ HO_8 ho73 hb
                    have n2_ := re_ HO_10 ho73 hb
                    have n3_ := re_ HO544 ho73 hb
                    have n4_ := re_ HO547 ho73 hb
                    have n5_ := jA.mk (Kd.jL (Kd.jG (Kd.jG (Kd.jG (Kd.jG (Kd.jG ho73 (Kd.R_lt (rR_ HO_7))) (Kd.R_lt (rR_ HO_8))) (Kd.R_lt (rR_ HO_10))) (Kd.R_lt (rR_ HO544))) (Kd.R_lt (rR_ HO547))) (jB (bb_ HB)))
                    have n6_ := bs_ HB hb
                    clear HO_7
                    clear HO_8
                    clear HO_10
                    clear HO544
                    clear HO547
                    clear HB
                    have HO_7 := n0_
                    have HO_8 := n1_
                    have HO_10 := n2_
                    have HO544 := n3_
                    have HO547 := n4_
                    have HO551 := n5_
                    have HB := n6_
                    clear n0_ n1_ n2_ n3_ n4_ n5_ n6_
                    clear hb ho73
                    refine hK.out _ _ (HS0_) (fun hHeld => ?_)
                    clear hK K
                    refine ns_ 76 ?_
                    exact jBR (by simp only [jAX, Act.put, ss_]) (hCont (.slice Ao70 y542.length co70, v546, v550) _ ⟨hHeld, (by refine pR_ ?_; exact Kd.jO HO544.out (fun _ hk => ⟨hk.1.2, ⟨hk.2, ⟨hk.1.1.2, ⟨hk.1.1.1.1.2, hk.1.1.1.2⟩⟩⟩⟩)), (by refine pR_ ?_; exact Kd.jO HO547.out (fun _ hk => ⟨hk.1.2, ⟨hk.2, ⟨hk.1.1.2, ⟨hk.1.1.1.1.2, hk.1.1.1.2⟩⟩⟩⟩)), (by refine pR_ ?_; exact Kd.jO HO551.out (fun _ hk => ⟨hk.1.2, ⟨hk.2, ⟨hk.1.1.2, ⟨hk.1.1.1.1.2, hk.1.1.1.2⟩⟩⟩⟩)), (by refine pR_ ?_; exact Kd.jO HO_10.out (fun _ hk => ⟨hk.1.1.2, ⟨hk.1.2, ⟨hk.2, ⟨hk.1.1.1.1, hk.1.1.1.2⟩⟩⟩⟩)), (by refine pR_ ?_; exact Kd.jO HO_7.out (fun _ hk => ⟨hk.1.1.2, ⟨hk.1.2, ⟨hk.2, ⟨hk.1.1.1.2, hk.1.1.1.1⟩⟩⟩⟩)), (by refine pR_ ?_; exact Kd.jO HO_8.out (fun _ hk => ⟨hk.1.1.2, ⟨hk.1.2, ⟨hk.2, ⟨hk.1.1.1.2, hk.1.1.1.1⟩⟩⟩⟩)), (bb_ HB)⟩)
                   ·
                    skip
                    refine Kd.qm (Kd.int .u64) _ 22 ?hg (N := 76) ?hd (xs := ([rd t527 x11_4] : List Int)) (inner := [.int .u64 (rd t527 x11_4)]) (ok := fun _ => True) (okp := fun _ => True) ?hr ?hp (fun _ hk => hk) trivial (Below.refl _ _) (Nat.le_refl _) (by simp) ?_; (case hd => rfl); (case hg => rfl); (case hr => exact gs_); (case hp => exact (Reps.one (show Kd.M (Kd.int .u64) _ _ _ (rd t527 x11_4) [.int .u64 (rd t527 x11_4)] from rfl) (Reps.none _ _)))
                    intro v550 w70 ho71 hb hg_ hnew_
                    have HS0_ := (hb.cell (World.block_lt_of_cell? _ _ (hHeld))).trans (hHeld)
                    clear hg_ hnew_
                    (first | rw [← Ny549.out] at ho71 | (simp only [Int.reduceToNat] at ho71; rw [← Ny549.out] at ho71))
                    have n0_ := re_ HO_7 ho71 hb
                    have n1_ := re_ HO_8 ho71 hb
                    have n2_ := re_ HO_10 ho71 hb
                    have n3_ := re_ HO544 ho71 hb
                    have n4_ := jA.mk (Kd.jL (Kd.jG (Kd.jG (Kd.jG (Kd.jG ho71 (Kd.R_lt (rR_ HO_7))) (Kd.R_lt (rR_ HO_8))) (Kd.R_lt (rR_ HO_10))) (Kd.R_lt (rR_ HO544))) (jB (bb_ HB)))
                    have n5_ := bs_ HB hb
                    clear HO_7
                    clear HO_8
                    clear HO_10
                    clear HO544
                    clear HB
                    have HO_7 := n0_
                    have HO_8 := n1_
                    have HO_10 := n2_
                    have HO544 := n3_
                    have HO551 := n4_
                    have HB := n5_
                    clear n0_ n1_ n2_ n3_ n4_ n5_
                    clear hb ho71
                    obtain ⟨Ao72, co72, eo72⟩ := Kd.jP HO544.out
                    (first | subst eo72 | (injection eo72 with f1_ f2_ f3_; have f4_ := f1_.symm; have f5_ := f3_.symm; clear f1_ f2_ f3_; subst f4_; subst f5_))
                    refine hK.out _ _ (HS0_) (fun hHeld => ?_)
                    clear hK K
                    refine ns_ 76 ?_
                    refine one_ (i := 2) (N := some 71) (ba_ 10 255) rfl rfl (ql HT_.out kr_) (by decide) (fun K hK => ?_)
                    refine jAs Try.func23 kr_ rfl #[.slice Ao66 x10_4.length co66, .slice Ao72 y542.length co72] (by rfl) rfl rfl (by (try simp only [List.map_toArray, List.map_cons, List.map_nil]); first | done | rfl | (simp only [List.length_drop, List.length_take]; rfl)) ?_
                    with_reducible refine (jF.calls k4 _ _ x10_4 _ _ y542 t545 _ ?side1 ?side2 ?side3 ?side4 A32.out).mono ?_
                    (case side1 => exact cc_ (Kd.jC HO_10.out).2.2)
                    (case side2 => exact (Kd.jC HO_10.out).2.1)
                    (case side3 => exact cc_ (Kd.jC HO544.out).2.2)
                    (case side4 => exact (Kd.jC HO544.out).2.1)
                    rintro e w73 ⟨v546, rfl, ho0, hb⟩
                    have HS0_ := (hb.cell (World.block_lt_of_cell? _ _ (hHeld))).trans (hHeld)
                    refine ⟨_, rfl, ?_⟩
                    have n0_ := re_ HO_7 ho0 hb
                    have n1_ := re_ HO_8 ho0 hb
                    have n2_ := re_ HO_10 ho0 hb
                    have n3_ := re_ HO544 ho0 hb
                    have n4_ := re_ HO551 ho0 hb
                    have n5_ := jA.mk (Kd.jL (Kd.jG (Kd.jG (Kd.jG (Kd.jG (Kd.jG ho0 (Kd.R_lt (rR_ HO_7))) (Kd.R_lt (rR_ HO_8))) (Kd.R_lt (rR_ HO_10))) (Kd.R_lt (rR_ HO544))) (Kd.R_lt (rR_ HO551))) (jB (bb_ HB)))
                    have n6_ := bs_ HB hb
                    clear HO_7
                    clear HO_8
                    clear HO_10
                    clear HO544
                    clear HO551
                    clear HB
                    have HO_7 := n0_
                    have HO_8 := n1_
                    have HO_10 := n2_
                    have HO544 := n3_
                    have HO551 := n4_
                    have HO547 := n5_
                    have HB := n6_
                    clear n0_ n1_ n2_ n3_ n4_ n5_ n6_
                    (try clear hb)
                    (try clear hb2)
                    (try clear hk)
                    (try clear hi)
                    (try clear ho0)
                    refine hK.out _ _ (HS0_) (fun hHeld => ?_)
                    clear hK K
                    refine ns_ 71 ?_
                    exact jBR (by simp only [jAX, Act.put, ss_]) (hCont (.slice Ao72 y542.length co72, v546, v550) _ ⟨hHeld, (by refine pR_ ?_; exact Kd.jO HO544.out (fun _ hk => ⟨hk.2, ⟨hk.1.2, ⟨hk.1.1.2, ⟨hk.1.1.1.1.2, hk.1.1.1.2⟩⟩⟩⟩)), (by refine pR_ ?_; exact Kd.jO HO547.out (fun _ hk => ⟨hk.1.2, ⟨hk.2, ⟨hk.1.1.2, ⟨hk.1.1.1.1.2, hk.1.1.1.2⟩⟩⟩⟩)), (by refine pR_ ?_; exact Kd.jO HO551.out (fun _ hk => ⟨hk.1.2, ⟨hk.2, ⟨hk.1.1.2, ⟨hk.1.1.1.1.2, hk.1.1.1.2⟩⟩⟩⟩)), (by refine pR_ ?_; exact Kd.jO HO_10.out (fun _ hk => ⟨hk.1.1.2, ⟨hk.2, ⟨hk.1.2, ⟨hk.1.1.1.1, hk.1.1.1.2⟩⟩⟩⟩)), (by refine pR_ ?_; exact Kd.jO HO_7.out (fun _ hk => ⟨hk.1.1.2, ⟨hk.2, ⟨hk.1.2, ⟨hk.1.1.1.2, hk.1.1.1.1⟩⟩⟩⟩)), (by refine pR_ ?_; exact Kd.jO HO_8.out (fun _ hk => ⟨hk.1.1.2, ⟨hk.2, ⟨hk.1.2, ⟨hk.1.1.1.2, hk.1.1.1.1⟩⟩⟩⟩)), (bb_ HB)⟩)
                  ·
                   skip
                   refine Kd.qm (Kd.int .u64) _ 22 ?hg (N := 76) ?hd (xs := ([rd t527 x11_4] : List Int)) (inner := [.int .u64 (rd t527 x11_4)]) (ok := fun _ => True) (okp := fun _ => True) ?hr ?hp (fun _ hk => hk) trivial (Below.refl _ _) (Nat.le_refl _) (by simp) ?_; (case hd => rfl); (case hg => rfl); (case hr => exact gs_); (case hp => exact (Reps.one (show Kd.M (Kd.int .u64) _ _ _ (rd t527 x11_4) [.int .u64 (rd t527 x11_4)] from rfl) (Reps.none _ _)))
                   intro v550 w68 ho69 hb hg_ hnew_
                   have HS0_ := (hb.cell (World.block_lt_of_cell? _ _ (hHeld))).trans (hHeld)
                   clear hg_ hnew_
                   (first | rw [← Ny549.out] at ho69 | (simp only [Int.reduceToNat] at ho69; rw [← Ny549.out] at ho69))
                   have n0_ := re_ HO_7 ho69 hb
                   have n1_ := re_ HO_8 ho69 hb
                   have n2_ := re_ HO_10 ho69 hb
                   have n3_ := jA.mk (Kd.jL (Kd.jG (Kd.jG (Kd.jG ho69 (Kd.R_lt (rR_ HO_7))) (Kd.R_lt (rR_ HO_8))) (Kd.R_lt (rR_ HO_10))) (jB (bb_ HB)))
                   have n4_ := bs_ HB hb
                   clear HO_7
                   clear HO_8
                   clear HO_10
                   clear HB
                   have HO_7 := n0_
                   have HO_8 := n1_
                   have HO_10 := n2_
                   have HO551 := n3_
                   have HB := n4_
                   clear n0_ n1_ n2_ n3_ n4_
                   clear hb ho69
                   refine hK.out _ _ (HS0_) (fun hHeld => ?_)
                   clear hK K
                   refine ns_ 76 ?_
                   refine one_ (i := 1) (N := some 70) (ba_ 10 251) rfl rfl (ql HT_.out kr_) (by decide) (fun K hK => ?_)
                   refine Kd.qm (Kd.int .u64) _ 22 ?hg (N := 70) ?hd (xs := ([4294967296] : List Int)) (inner := [.int .u64 4294967296]) (ok := fun _ => True) (okp := fun _ => True) ?hr ?hp (fun _ hk => hk) trivial (Below.refl _ _) (Nat.le_refl _) (by simp) ?_; (case hd => rfl); (case hg => rfl); (case hr => exact gs_); (case hp => exact (Reps.one (show Kd.M (Kd.int .u64) _ _ _ 4294967296 [.int .u64 4294967296] from rfl) (Reps.none _ _)))
                   intro v543 w70 ho71 hb hg_ hnew_
                   have HS0_ := (hb.cell (World.block_lt_of_cell? _ _ (hHeld))).trans (hHeld)
                   clear hg_ hnew_
                   (first | rw [← Ny542.out] at ho71 | (simp only [Int.reduceToNat] at ho71; rw [← Ny542.out] at ho71))
                   have n0_ := re_ HO_7 ho71 hb
                   have n1_ := re_ HO_8 ho71 hb
                   have n2_ := re_ HO_10 ho71 hb
                   have n3_ := re_ HO551 ho71 hb
                   have n4_ := jA.mk (Kd.jL (Kd.jG (Kd.jG (Kd.jG (Kd.jG ho71 (Kd.R_lt (rR_ HO_7))) (Kd.R_lt (rR_ HO_8))) (Kd.R_lt (rR_ HO_10))) (Kd.R_lt (rR_ HO551))) (jB (bb_ HB)))
                   have n5_ := bs_ HB hb
                   clear HO_7
                   clear HO_8
                   clear HO_10
                   clear HO551
                   clear HB
                   have HO_7 := n0_
                   have HO_8 := n1_
                   have HO_10 := n2_
                   have HO551 := n3_
                   have HO544 := n4_
                   have HB := n5_
                   clear n0_ n1_ n2_ n3_ n4_ n5_
                   clear hb ho71
                   obtain ⟨Ao72, co72, eo72⟩ := Kd.jP HO544.out
                   (first | subst eo72 | (injection eo72 with f1_ f2_ f3_; have f4_ := f1_.symm; have f5_ := f3_.symm; clear f1_ f2_ f3_; subst f4_; subst f5_))
                   refine hK.out _ _ (HS0_) (fun hHeld => ?_)
                   clear hK K
                   refine ns_ 70 ?_
                   refine one_ (i := 2) (N := some 71) (ba_ 10 255) rfl rfl (ql HT_.out kr_) (by decide) (fun K hK => ?_)
                   refine jAs Try.func23 kr_ rfl #[.slice Ao66 x10_4.length co66, .slice Ao72 y542.length co72] (by rfl) rfl rfl (by (try simp only [List.map_toArray, List.map_cons, List.map_nil]); first | done | rfl | (simp only [List.length_drop, List.length_take]; rfl)) ?_
                   with_reducible refine (jF.calls k4 _ _ x10_4 _ _ y542 t545 _ ?side1 ?side2 ?side3 ?side4 A32.out).mono ?_
                   (case side1 => exact cc_ (Kd.jC HO_10.out).2.2)
                   (case side2 => exact (Kd.jC HO_10.out).2.1)
                   (case side3 => exact cc_ (Kd.jC HO544.out).2.2)
                   (case side4 => exact (Kd.jC HO544.out).2.1)
                   rintro e w73 ⟨v546, rfl, ho0, hb⟩
                   have HS0_ := (hb.cell (World.block_lt_of_cell? _ _ (hHeld))).trans (hHeld)
                   refine ⟨_, rfl, ?_⟩
                   have n0_ := re_ HO_7 ho0 hb
                   have n1_ := re_ HO_8 ho0 hb
                   have n2_ := re_ HO_10 ho0 hb
                   have n3_ := re_ HO551 ho0 hb
                   have n4_ := re_ HO544 ho0 hb
                   have n5_ := jA.mk (Kd.jL (Kd.jG (Kd.jG (Kd.jG (Kd.jG (Kd.jG ho0 (Kd.R_lt (rR_ HO_7))) (Kd.R_lt (rR_ HO_8))) (Kd.R_lt (rR_ HO_10))) (Kd.R_lt (rR_ HO551))) (Kd.R_lt (rR_ HO544))) (jB (bb_ HB)))
                   have n6_ := bs_ HB hb
                   clear HO_7
                   clear HO_8
                   clear HO_10
                   clear HO551
                   clear HO544
                   clear HB
                   have HO_7 := n0_
                   have HO_8 := n1_
                   have HO_10 := n2_
                   have HO551 := n3_
                   have HO544 := n4_
                   have HO547 := n5_
                   have HB := n6_
                   clear n0_ n1_ n2_ n3_ n4_ n5_ n6_
                   (try clear hb)
                   (try clear hb2)
                   (try clear hk)
                   (try clear hi)
                   (try clear ho0)
                   refine hK.out _ _ (HS0_) (fun hHeld => ?_)
                   clear hK K
                   refine ns_ 71 ?_
                   exact jBR (by simp only [jAX, Act.put, ss_]) (hCont (.slice Ao72 y542.length co72, v546, v550) _ ⟨hHeld, (by refine pR_ ?_; exact Kd.jO HO544.out (fun _ hk => ⟨hk.2, ⟨hk.1.2, ⟨hk.1.1.2, ⟨hk.1.1.1.1.2, hk.1.1.1.2⟩⟩⟩⟩)), (by refine pR_ ?_; exact Kd.jO HO547.out (fun _ hk => ⟨hk.2, ⟨hk.1.2, ⟨hk.1.1.2, ⟨hk.1.1.1.1.2, hk.1.1.1.2⟩⟩⟩⟩)), (by refine pR_ ?_; exact Kd.jO HO551.out (fun _ hk => ⟨hk.1.2, ⟨hk.2, ⟨hk.1.1.2, ⟨hk.1.1.1.1.2, hk.1.1.1.2⟩⟩⟩⟩)), (by refine pR_ ?_; exact Kd.jO HO_10.out (fun _ hk => ⟨hk.1.2, ⟨hk.2, ⟨hk.1.1.2, ⟨hk.1.1.1.1, hk.1.1.1.2⟩⟩⟩⟩)), (by refine pR_ ?_; exact Kd.jO HO_7.out (fun _ hk => ⟨hk.1.2, ⟨hk.2, ⟨hk.1.1.2, ⟨hk.1.1.1.2, hk.1.1.1.1⟩⟩⟩⟩)), (by refine pR_ ?_; exact Kd.jO HO_8.out (fun _ hk => ⟨hk.1.2, ⟨hk.2, ⟨hk.1.1.2, ⟨hk.1.1.1.2, hk.1.1.1.1⟩⟩⟩⟩)), (bb_ HB)⟩)
                 rintro ⟨v543, v546, v550⟩ w74 ⟨hS_, h0_, h1_, h2_, h3_, h4_, h5_, h6_⟩
                 have n0_ : jA (Kd.R (Kd.int .u64) 22 w74 w.heap.size (fun k_ => some k_ ≠ (v546 : Value).ownBlock ∧ some k_ ≠ (v550 : Value).ownBlock ∧ some k_ ≠ (.slice Ao66 x10_4.length co66 : Value).ownBlock ∧ some k_ ≠ (.slice (some ad548) t527.length co28 : Value).ownBlock ∧ some k_ ≠ (u8 : Value).ownBlock) v543 y542) := ⟨h0_⟩
                 have n1_ : jA (Kd.R (Kd.int .u64) 22 w74 w.heap.size (fun k_ => some k_ ≠ (v543 : Value).ownBlock ∧ some k_ ≠ (v550 : Value).ownBlock ∧ some k_ ≠ (.slice Ao66 x10_4.length co66 : Value).ownBlock ∧ some k_ ≠ (.slice (some ad548) t527.length co28 : Value).ownBlock ∧ some k_ ≠ (u8 : Value).ownBlock) v546 t545) := ⟨h1_⟩
                 have n2_ : jA (Kd.R (Kd.int .u64) 22 w74 w.heap.size (fun k_ => some k_ ≠ (v543 : Value).ownBlock ∧ some k_ ≠ (v546 : Value).ownBlock ∧ some k_ ≠ (.slice Ao66 x10_4.length co66 : Value).ownBlock ∧ some k_ ≠ (.slice (some ad548) t527.length co28 : Value).ownBlock ∧ some k_ ≠ (u8 : Value).ownBlock) v550 y549) := ⟨h2_⟩
                 have n3_ : jA (Kd.R (Kd.int .u64) 22 w74 w.heap.size (fun k_ => some k_ ≠ (v543 : Value).ownBlock ∧ some k_ ≠ (v546 : Value).ownBlock ∧ some k_ ≠ (v550 : Value).ownBlock ∧ some k_ ≠ (.slice (some ad548) t527.length co28 : Value).ownBlock ∧ some k_ ≠ (u8 : Value).ownBlock) (.slice Ao66 x10_4.length co66) x10_4) := ⟨h3_⟩
                 have n4_ : jA (Kd.R (Kd.int .u64) 22 w74 w.heap.size (fun k_ => some k_ ≠ (v543 : Value).ownBlock ∧ some k_ ≠ (v546 : Value).ownBlock ∧ some k_ ≠ (v550 : Value).ownBlock ∧ some k_ ≠ (.slice Ao66 x10_4.length co66 : Value).ownBlock ∧ some k_ ≠ (u8 : Value).ownBlock) (.slice (some ad548) t527.length co28) t527) := ⟨h4_⟩
                 have n5_ : jA (Kd.R (Kd.int .u64) 22 w74 w.heap.size (fun k_ => some k_ ≠ (v543 : Value).ownBlock ∧ some k_ ≠ (v546 : Value).ownBlock ∧ some k_ ≠ (v550 : Value).ownBlock ∧ some k_ ≠ (.slice Ao66 x10_4.length co66 : Value).ownBlock ∧ some k_ ≠ (.slice (some ad548) t527.length co28 : Value).ownBlock) u8 x8_4) := ⟨h5_⟩
                 have n6_ : jA (Below w.heap.size w w74) := ⟨h6_⟩
                 clear HO_7
                 clear HO_8
                 clear HO_10
                 clear HB
                 clear h0_ h1_ h2_ h3_ h4_ h5_ h6_
                 have HO544 := n0_
                 have HO547 := n1_
                 have HO551 := n2_
                 have HO_10 := n3_
                 have HO_7 := n4_
                 have HO_8 := n5_
                 have HB := n6_
                 clear n0_ n1_ n2_ n3_ n4_ n5_ n6_
                 have hHeld : w74.cell? (ad548.add (x11_4).toNat) = some (.int .u64 (rd t527 x11_4)) := hS_
                 obtain ⟨Ao75, co75, eo75⟩ := Kd.jP HO547.out
                 (first | subst eo75 | (injection eo75 with f1_ f2_ f3_; have f4_ := f1_.symm; have f5_ := f3_.symm; clear f1_ f2_ f3_; subst f4_; subst f5_))
                 obtain ⟨Ao76, co76, eo76⟩ := Kd.jP HO551.out
                 (first | subst eo76 | (injection eo76 with f1_ f2_ f3_; have f4_ := f1_.symm; have f5_ := f3_.symm; clear f1_ f2_ f3_; subst f4_; subst f5_))
                 refine jBR (a' := ?_) ?_ ?_
                 rotate_left
                 ·
                  simp only [jAX, Act.put, ss_]
                  rfl
                 refine one_ (i := 8) (N := some 77) (ba_ 10 511) rfl rfl (ql HT_.out kr_) (by decide) (fun K hK => ?_)
                 refine jAs Try.func102 kr_ rfl #[.slice Ao75 t545.length co75, .slice Ao76 y549.length co76] (by rfl) rfl rfl (by (try simp only [List.map_toArray, List.map_cons, List.map_nil]); first | done | rfl | (simp only [List.length_drop, List.length_take]; rfl)) ?_
                 with_reducible refine (jQ.calls k4 _ _ t545 _ _ y549 t552 _ ?side1 ?side2 ?side3 ?side4 A35.out).mono ?_
                 (case side1 => exact cc_ (Kd.jC HO547.out).2.2)
                 (case side2 => exact (Kd.jC HO547.out).2.1)
                 (case side3 => exact cc_ (Kd.jC HO551.out).2.2)
                 (case side4 => exact (Kd.jC HO551.out).2.1)
                 rintro e w77 ⟨v553, rfl, ho0, hb⟩
                 have HS0_ := (hb.cell (World.block_lt_of_cell? _ _ (hHeld))).trans (hHeld)
                 refine ⟨_, rfl, ?_⟩
                 have n0_ := re_ HO_7 ho0 hb
                 have n1_ := re_ HO_8 ho0 hb
                 have n2_ := re_ HO_10 ho0 hb
                 have n3_ := re_ HO544 ho0 hb
                 have n4_ := re_ HO547 ho0 hb
                 have n5_ := re_ HO551 ho0 hb
                 have n6_ := jA.mk (Kd.jL (Kd.jG (Kd.jG (Kd.jG (Kd.jG (Kd.jG (Kd.jG ho0 (Kd.R_lt (rR_ HO_7))) (Kd.R_lt (rR_ HO_8))) (Kd.R_lt (rR_ HO_10))) (Kd.R_lt (rR_ HO544))) (Kd.R_lt (rR_ HO547))) (Kd.R_lt (rR_ HO551))) (jB (bb_ HB)))
                 have n7_ := bs_ HB hb
                 clear HO_7
                 clear HO_8
                 clear HO_10
                 clear HO544
                 clear HO547
                 clear HO551
                 clear HB
                 have HO_7 := n0_
                 have HO_8 := n1_
                 have HO_10 := n2_
                 have HO544 := n3_
                 have HO547 := n4_
                 have HO551 := n5_
                 have HO554 := n6_
                 have HB := n7_
                 clear n0_ n1_ n2_ n3_ n4_ n5_ n6_ n7_
                 (try clear hb)
                 (try clear hb2)
                 (try clear hk)
                 (try clear hi)
                 (try clear ho0)
                 refine hK.out _ _ (HS0_) (fun hHeld => ?_)
                 clear hK K
                 refine ns_ 77 ?_
                 refine pu_ 9 (some 10) (ba_ 10 1023) (vL HT_.out kr_) ?_
                 refine jBH (jAt HT_.out kr_) ?_
                 obtain ⟨Ao78, co78, eo78⟩ := Kd.jP HO554.out
                 subst eo78
                 try go_wp2_with (first | ((with_reducible refine jD (f := 103) rfl ?_); refine gl_ (some 80) Try.func103 #[.slice Ao78 t552.length co78, .slice A1 l1.length c1] ?_; (with_reducible refine (jU.calls k4 _ _ t552 _ _ l1 t555 _ ?side1 ?side2 ?side3 ?side4 A36.out).mono ?_); (case side1 => exact cc_ (Kd.jC HO554.out).2.2); (case side2 => exact (Kd.jC HO554.out).2.1); (case side3 => exact cb_ HR1 HB); (case side4 => exact HC1.out); rintro e w79 ⟨rfl, hb⟩; refine ⟨_, rfl, ?_⟩; replace HO_7 := ro_ HO_7 hb; replace HO_8 := ro_ HO_8 hb; replace HO_10 := ro_ HO_10 hb; replace HO544 := ro_ HO544 hb; replace HO547 := ro_ HO547 hb; replace HO551 := ro_ HO551 hb; replace HO554 := ro_ HO554 hb; replace HB := bs_ HB hb))
                 go_roundg k4
                 case measure => have := HJ2.out; have := HJ8.out; have := HK3.out; have := HK4.out; omega
                 case rel => exact ⟨(x8_4), (t552), (wrap64 (x11_4 - 1)), sd_, H', ⟨by have := HJ2.out; have := HJ8.out; have := HK3.out; have := HK4.out; omega⟩, ⟨by (with_reducible repeat (first | apply Kd.zG | apply Kd.zM | apply Kd.zP)); exact Kd.jO HO_7.out (fun _ hk => ⟨hk.1.2.2.2.2, hk.2⟩)⟩, ⟨by (with_reducible repeat (first | apply Kd.zG | apply Kd.zM | apply Kd.zP)); exact Kd.jO HO_8.out (fun _ hk => ⟨hk.1.2.2.2.2, hk.2⟩)⟩, ⟨by (with_reducible repeat (first | apply Kd.zG | apply Kd.zM | apply Kd.zP)); exact Kd.jO HO554.out (fun _ hk => ⟨hk.1.1.1.1.1.2, hk.1.1.1.1.2⟩)⟩, ⟨(bb_ HB)⟩⟩
               ·
                rw [if_neg c34] at H
                exact absurd H (by simp)
              ·
               rw [if_neg c33] at H
               exact absurd H (by simp)
             ·
              rw [if_neg c31] at H
              have c31b0 := decide_eq_false c31
              clear c31
              obtain ⟨t539, A80, H⟩ := oc_ H
              try dsimp only at H
              simp only [Option.some.injEq, Prod.mk.injEq] at H
              obtain ⟨rfl, rfl, rfl⟩ := H
              obtain ⟨Ao81, co81, eo81⟩ := Kd.jP HO_8.out
              subst eo81
              go_wp2_with (first | ((with_reducible refine jD (f := 70) rfl ?_); refine gl_ (some 102) Try.func70 #[.slice Ao81 x8_4.length co81] ?_; (with_reducible refine (jN.calls k4 _ _ x8_4 t539 _ ?side1 ?side2 A80.out).mono ?_); (case side1 => exact cc_ (Kd.jC HO_8.out).2.2); (case side2 => exact (Kd.jC HO_8.out).2.1); rintro e w82 ⟨v540, rfl, ho0, hb⟩; refine ⟨_, rfl, ?_⟩; have HO541 := jA.mk (Kd.jL (Kd.jG (Kd.jG (Kd.jG ho0 (Kd.R_lt (rR_ HO_7))) (Kd.R_lt (rR_ HO_8))) (Kd.R_lt (rR_ HO_10))) (jB (bb_ HB))); replace HO_7 := re_ HO_7 ho0 hb; replace HO_8 := re_ HO_8 ho0 hb; replace HO_10 := re_ HO_10 ho0 hb; replace HB := bs_ HB hb))
              go_ret3
              exact ⟨_, _, ew_, by refine pR_ ?_; exact Kd.jO HO541.out (fun _ hk => hk.2), by refine pR_ ?_; exact Kd.jO HO_10.out (fun _ hk => hk.2), (bb_ HB)⟩
end Go.Proofs.Ytijgeonhbmgikaa.PORatioMakes
