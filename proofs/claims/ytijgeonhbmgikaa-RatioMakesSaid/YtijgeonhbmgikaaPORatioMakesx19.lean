-- printed (pr.py)
import Derived.Test.YtijgeonhbmgikaaPORatioMakesx18
namespace Go.Proofs.Ytijgeonhbmgikaa.PORatioMakes
open Go.RowKit Go.Proofs.YtijgeonhbmgikaaN Go.Proofs.YtijgeonhbmgikaaW.PrintWords Go.Proofs.YtijgeonhbmgikaaW.PrintLast Go.Proofs.YtijgeonhbmgikaaW.PrintMore
attribute [local go_sem] qJ qH qd qc zo zn qI qG
set_option maxHeartbeats 8000000
set_option maxRecDepth 100000
set_option linter.unusedVariables false
set_option linter.unusedSimpArgs false
mutual
def syzygylaw05_RatioMakes.j0 : Nat → Bool → List Int → List Int → Int → List (S44) → Bool → Option (Bool)
 | 0, _, _, _, _, _, _ => none
 | k + 1, x0, x1, x2, x3, x4, x37 => if x37 = true then ((vR.f k).bind fun t712 => (some t712)) else (syzygylaw05_RatioMakes.l0 k x0 x1 x2 x3 x4 0)
def syzygylaw05_RatioMakes.l0 : Nat → Bool → List Int → List Int → Int → List (S44) → Int → Option (Bool)
 | 0, _, _, _, _, _, _ => none
 | k + 1, x0, x1, x2, x3, x4, x11 => if x11 < (x4.length : Int) then (if 0 ≤ x11 then ((qA.f ((vH x4 x11).f0) ((vH x4 x11).f1) ((vH x4 x11).f2)).bind fun t714 => (if t714 = true then ((vR.f k).bind fun t715 => (some t715)) else (syzygylaw05_RatioMakes.l0 k x0 x1 x2 x3 x4 (wrap64 (x11 + 1))))) else (none)) else ((zq.f k x0 x1 x2).bind fun bt716 => ((zD.f k x0 x1 x2).bind fun bt725 => ((zN.f k x4).bind fun bt734 => ((jd.f k x4).bind fun bt743 => ((jy.f k bt716.1 bt716.2.1 bt716.2.2.1 bt725.1 bt725.2.1 bt725.2.2.1).bind fun t752 => (if t752 = true then (if bt716.2.2.2 = bt725.2.2.2 then ((zW.f x3).bind fun bt753 => ((zH.f k x3).bind fun bt760 => ((jy.f k bt753.1 bt753.2.1 bt753.2.2 bt760.1 bt760.2.1 bt760.2.2).bind fun t767 => (if t767 = true then ((jy.f k bt734.1 bt734.2.1 bt734.2.2.1 bt743.1 bt743.2.1 bt743.2.2.1).bind fun t768 => (if t768 = true then (some (bt734.2.2.2 == bt743.2.2.2)) else (some false))) else (some false))))) else (some false)) else (some false)))))))
end
def syzygylaw05_RatioMakes.f (k : Nat) (a0 : Bool) (l1 : List Int) (l2 : List Int) (a3 : Int) (l4 : List (S44)) : Option (Bool) := if (l1.length : Int) > 20 then (syzygylaw05_RatioMakes.j0 k a0 l1 l2 a3 l4 true) else (if (l2.length : Int) > 20 then (syzygylaw05_RatioMakes.j0 k a0 l1 l2 a3 l4 true) else (if (l4.length : Int) > 20 then (syzygylaw05_RatioMakes.j0 k a0 l1 l2 a3 l4 true) else ((vR.f k).bind fun t711 => (syzygylaw05_RatioMakes.j0 k a0 l1 l2 a3 l4 (!t711)))))
theorem syzygylaw05_RatioMakes.vQ : ∀ k, (∀ y0 y1 y2 y3 y4 y5, LeO (syzygylaw05_RatioMakes.j0 k y0 y1 y2 y3 y4 y5) (syzygylaw05_RatioMakes.j0 (k + 1) y0 y1 y2 y3 y4 y5)) ∧ (∀ y0 y1 y2 y3 y4 y5, LeO (syzygylaw05_RatioMakes.l0 k y0 y1 y2 y3 y4 y5) (syzygylaw05_RatioMakes.l0 (k + 1) y0 y1 y2 y3 y4 y5))
 | 0 => ⟨fun _ _ _ _ _ _ r h => by simp [syzygylaw05_RatioMakes.j0] at h, fun _ _ _ _ _ _ r h => by simp [syzygylaw05_RatioMakes.l0] at h⟩
 | k + 1 => by
  obtain ⟨ih0, ih1⟩ := syzygylaw05_RatioMakes.vQ k
  refine ⟨?_, ?_⟩ <;> (intros; first | unfold syzygylaw05_RatioMakes.j0 | unfold syzygylaw05_RatioMakes.l0) <;> repeat' first
   | (with_reducible exact ih0 _ _ _ _ _ _)
   | (with_reducible exact ih1 _ _ _ _ _ _)
   | (with_reducible exact zq.mono _ _ _ _)
   | (with_reducible exact zN.mono _ _)
   | (with_reducible exact vR.mono _)
   | (with_reducible exact zD.mono _ _ _ _)
   | (with_reducible exact zH.mono _ _)
   | (with_reducible exact jy.mono _ _ _ _ _ _ _)
   | (with_reducible exact jd.mono _ _)
   | (with_reducible exact LeO.refl _)
   | (with_reducible exact LeO.none _)
   | (with_reducible refine LeO.ite ?_ ?_)
   | (with_reducible refine LeO.bind ?_ (fun _ => ?_))
theorem syzygylaw05_RatioMakes.mono : ∀ a0 a1 a2 a3 a4 k, LeO (syzygylaw05_RatioMakes.f k a0 a1 a2 a3 a4) (syzygylaw05_RatioMakes.f (k + 1) a0 a1 a2 a3 a4) := by
 intro a0 a1 a2 a3 a4 k
 obtain ⟨ih0, ih1⟩ := syzygylaw05_RatioMakes.vQ k
 unfold syzygylaw05_RatioMakes.f
 repeat' first
   | (with_reducible exact ih0 _ _ _ _ _ _)
   | (with_reducible exact ih1 _ _ _ _ _ _)
   | (with_reducible exact zq.mono _ _ _ _)
   | (with_reducible exact zN.mono _ _)
   | (with_reducible exact vR.mono _)
   | (with_reducible exact zD.mono _ _ _ _)
   | (with_reducible exact zH.mono _ _)
   | (with_reducible exact jy.mono _ _ _ _ _ _ _)
   | (with_reducible exact jd.mono _ _)
   | (with_reducible exact LeO.refl _)
   | (with_reducible exact LeO.none _)
   | (with_reducible refine LeO.ite ?_ ?_)
   | (with_reducible refine LeO.bind ?_ (fun _ => ?_))
theorem syzygylaw05_RatioMakes.calls (k : Nat) (a0 : Bool) (A1 : Option Addr) (c1 : Nat) (l1 : List Int) (A2 : Option Addr) (c2 : Nat) (l2 : List Int) (a3 : Int) (A4 : Option Addr) (c4 : Nat) (l4 : List (S44)) (w : World) (hr1 : Kd.C (Kd.int .u64) w A1 l1.length l1) (hc1 : l1.length ≤ c1) (hr2 : Kd.C (Kd.int .u64) w A2 l2.length l2) (hc2 : l2.length ≤ c2) (hr4 : Kd.C k44 w A4 l4.length l4) (hc4 : l4.length ≤ c4) (h : syzygylaw05_RatioMakes.f k a0 l1 l2 a3 l4 = some true) :
  Calls Try.prog 7 #[.bool a0, .slice A1 l1.length c1, .slice A2 l2.length c2, .int .i64 a3, .slice A4 l4.length c4] w fun e w' => e = .returned (.bool true) ∧ Below w.heap.size w w' := by
 have hu44 := Try.underlying44
 have HR1 := jA.mk hr1
 have HC1 := jA.mk hc1
 clear hr1 hc1
 have HR2 := jA.mk hr2
 have HC2 := jA.mk hc2
 clear hr2 hc2
 have HR4 := jA.mk hr4
 have HC4 := jA.mk hc4
 clear hr4 hc4
 have HB := jA.mk (Below.refl w.heap.size w)
 have H : (if (l1.length : Int) > 20 then (syzygylaw05_RatioMakes.j0 k a0 l1 l2 a3 l4 true) else (if (l2.length : Int) > 20 then (syzygylaw05_RatioMakes.j0 k a0 l1 l2 a3 l4 true) else (if (l4.length : Int) > 20 then (syzygylaw05_RatioMakes.j0 k a0 l1 l2 a3 l4 true) else ((vR.f k).bind fun t711 => (syzygylaw05_RatioMakes.j0 k a0 l1 l2 a3 l4 (!t711)))))) = some true := h
 clear h
 have HC6 := jA.mk H
 clear H
 go_enter Try.func7, Try.ntmps7
 go_upto_region 1 with (fail)
 go_cut [37] (fun v37 wc => ∃ (kq : Nat) (x37_5 : Bool), v37 = .bool x37_5 ∧ jA (syzygylaw05_RatioMakes.j0 kq a0 l1 l2 a3 l4 x37_5 = some true) ∧ jA (kq ≤ k) ∧ jA (Below w.heap.size w wc))
 case first =>
  have H := HC6.out
  clear HC6
  by_cases c7 : (l1.length : Int) > 20
  ·
   rw [if_pos c7] at H
   have c7b0 := decide_eq_true c7
   have c7b1 : decide (20 < l1.length) = true := decide_eq_true (by omega)
   clear c7
   (first | rw [c7b0] | (simp only [qg, jAb]; rw [c7b0]) | skip)
   have H' := jA.mk H
   clear H
   go_wp2
   go_meet
   case rel => exact ⟨_, (true), sd_, H', ⟨by first | omega | exact Nat.le_refl _⟩, ⟨(bb_ HB)⟩⟩
  ·
   rw [if_neg c7] at H
   have c7b0 := decide_eq_false c7
   have c7b1 : decide (20 < l1.length) = false := decide_eq_false (by omega)
   clear c7
   (first | rw [c7b0] | (simp only [qg, jAb]; rw [c7b0]) | skip)
   by_cases c8 : (l2.length : Int) > 20
   ·
    rw [if_pos c8] at H
    have c8b0 := decide_eq_true c8
    have c8b1 : decide (20 < l2.length) = true := decide_eq_true (by omega)
    clear c8
    have H' := jA.mk H
    clear H
    go_wp2
    go_meet
    case rel => exact ⟨_, (true), sd_, H', ⟨by first | omega | exact Nat.le_refl _⟩, ⟨(bb_ HB)⟩⟩
   ·
    rw [if_neg c8] at H
    have c8b0 := decide_eq_false c8
    have c8b1 : decide (20 < l2.length) = false := decide_eq_false (by omega)
    clear c8
    by_cases c9 : (l4.length : Int) > 20
    ·
     rw [if_pos c9] at H
     have c9b0 := decide_eq_true c9
     have c9b1 : decide (20 < l4.length) = true := decide_eq_true (by omega)
     clear c9
     have H' := jA.mk H
     clear H
     go_wp2
     go_meet
     case rel => exact ⟨_, (true), sd_, H', ⟨by first | omega | exact Nat.le_refl _⟩, ⟨(bb_ HB)⟩⟩
    ·
     rw [if_neg c9] at H
     have c9b0 := decide_eq_false c9
     have c9b1 : decide (20 < l4.length) = false := decide_eq_false (by omega)
     clear c9
     obtain ⟨t711, A10, H⟩ := oc_ H
     try dsimp only at H
     have H' := jA.mk H
     clear H
     go_wp2_with (first | ((with_reducible refine jW (N := 35) rfl ?_); (try (refine je (by rfl) ?_; dsimp only)); refine je (by first | rfl | kernel_rfl) ?_; dsimp only; (with_reducible refine jD (f := 28) rfl ?_); refine gl_ (some 35) Try.func28 #[] ?_; (with_reducible refine (vR.calls k  t711 _ A10.out).mono ?_); rintro e w11 ⟨rfl, hb⟩; refine ⟨_, rfl, ?_⟩; replace HB := bs_ HB hb))
     go_meet
     case rel => exact ⟨_, (!t711), sd_, H', ⟨by first | omega | exact Nat.le_refl _⟩, ⟨(bb_ HB)⟩⟩
 case rest =>
  clear HC6
  try clear c1
  try clear c2
  try clear p2
  try clear c4
  try clear c7
  try clear c7b0
  try clear c7b1
  try clear c8
  try clear c8b0
  try clear c8b1
  try clear c9
  try clear c9b0
  try clear c9b1
  obtain ⟨kq, x37_5, rfl, HA, HJ5, HB⟩ := hcut
  cases kq with
  | zero => exact absurd HA.out (by simp [syzygylaw05_RatioMakes.j0])
  | succ kj5 =>
   have H := HA.out
   clear HA
   simp only [syzygylaw05_RatioMakes.j0] at H
   by_cases c12 : x37_5 = true
   ·
    subst c12
    replace H := ip_ H
    obtain ⟨t712, A13, H⟩ := oc_ H
    try dsimp only at H
    have HRT_ := jA.mk (Option.some.inj H)
    clear H
    go_wp2_with (first | ((with_reducible refine jD (f := 28) rfl ?_); refine gl_ (some 38) Try.func28 #[] ?_; (with_reducible refine (vR.calls kj5  t712 _ A13.out).mono ?_); rintro e w14 ⟨rfl, hb⟩; refine ⟨_, rfl, ?_⟩; replace HB := bs_ HB hb))
    go_ret
    exact ⟨by first | rfl | (rw [HRT_.out]; rfl) | (simp only [HRT_.out]; done) | exact of_decide_eq_true HRT_.out | (have h_ := HRT_.out; simp at h_ ⊢; exact h_) | (have h_ := HRT_.out; simp at h_ ⊢; omega) | (have h_ := HRT_.out; simp [h_]; done) | (simp [vW, vV] <;> rfl) | (simp [*, vW, vV] <;> rfl), (bb_ HB)⟩
   ·
    replace c12 := Bool.eq_false_iff.mpr c12
    subst c12
    replace H := in_ H
    have H' := jA.mk H
    clear H
    go_wp2
    go_loopg [11] kj5 (fun kq v11 w' => ∃ (x11_2 : Int), v11 = .int .i64 x11_2 ∧ jA (syzygylaw05_RatioMakes.l0 kq a0 l1 l2 a3 l4 x11_2 = some true) ∧ jA (kq ≤ kj5) ∧ jA (Below w.heap.size w w'))
    case atStart => exact ⟨(0), sd_, H', ⟨Nat.le_refl _⟩, ⟨(bb_ HB)⟩⟩
    case round =>
     clear H'
     try clear c1
     try clear c2
     try clear p2
     try clear c4
     try clear c7
     try clear c7b0
     try clear c7b1
     try clear c8
     try clear c8b0
     try clear c8b1
     try clear c9
     try clear c9b0
     try clear c9b1
     try clear c12
     try clear p2
     obtain ⟨x11_2, rfl, HA, HK2, HB⟩ := hrel
     cases gk with
     | zero => exact absurd HA.out (by simp [syzygylaw05_RatioMakes.l0])
     | succ k2 =>
      have H := HA.out
      clear HA
      simp only [syzygylaw05_RatioMakes.l0] at H
      by_cases c15 : x11_2 < (l4.length : Int)
      ·
       rw [if_pos c15] at H
       have c15b0 := decide_eq_true c15
       clear c15
       by_cases c16 : 0 ≤ x11_2
       ·
        rw [if_pos c16] at H
        have c16b0 := decide_eq_true c16
        clear c16
        obtain ⟨t714, A17, H⟩ := oc_ H
        try dsimp only at H
        by_cases c18 : t714 = true
        ·
         subst c18
         replace H := ip_ H
         obtain ⟨t715, A19, H⟩ := oc_ H
         try dsimp only at H
         have HRT_ := jA.mk (Option.some.inj H)
         clear H
         have p713 : 0 ≤ (x11_2 : Int) := of_decide_eq_true am_
         have q713 : x11_2 < (l4.length : Int) := of_decide_eq_true am_
         obtain ⟨ad713, A713_1, c713_1, A713_2, c713_2, e713, hx713_0, hx713_1, hx713_2, hl713_1, hi713_1, hl713_2, hi713_2⟩ := jCt HR4.out x11_2 p713 q713
         cases e713
         replace hx713_0 := (HB.out.cell (World.block_lt_of_cell? w _ hx713_0)).trans hx713_0
         replace hx713_1 := (HB.out.cell (World.block_lt_of_cell? w _ hx713_1)).trans hx713_1
         replace hx713_2 := (HB.out.cell (World.block_lt_of_cell? w _ hx713_2)).trans hx713_2
         have HR713_1 := jA.mk hi713_1
         have HC713_1 := jA.mk hl713_1
         clear hi713_1 hl713_1
         have HR713_2 := jA.mk hi713_2
         have HC713_2 := jA.mk hl713_2
         clear hi713_2 hl713_2
         replace p713 := eq_true p713
         replace q713 := eq_true q713
         go_wp2_with (first | ((with_reducible refine jD (f := 35) rfl ?_); refine gl_ (some 49) Try.func35 #[.agg #[.bool ((vH l4 x11_2).f0), .slice A713_1 ((vH l4 x11_2).f1).length c713_1, .slice A713_2 ((vH l4 x11_2).f2).length c713_2]] ?_; (with_reducible refine (qA.calls ((vH l4 x11_2).f0) _ _ ((vH l4 x11_2).f1) _ _ ((vH l4 x11_2).f2) true _ ?side1 ?side2 ?side3 ?side4 A17.out).mono ?_); (case side1 => exact cb_ HR713_1 HB); (case side2 => exact HC713_1.out); (case side3 => exact cb_ HR713_2 HB); (case side4 => exact HC713_2.out); rintro e w20 ⟨rfl, hb⟩; refine ⟨_, rfl, ?_⟩; replace HB := bs_ HB hb) | ((with_reducible refine jD (f := 28) rfl ?_); refine gl_ (some 50) Try.func28 #[] ?_; (with_reducible refine (vR.calls k2  t715 _ A19.out).mono ?_); rintro e w21 ⟨rfl, hb⟩; refine ⟨_, rfl, ?_⟩; replace HB := bs_ HB hb))
         go_ret
         exact ⟨by first | rfl | (rw [HRT_.out]; rfl) | (simp only [HRT_.out]; done) | exact of_decide_eq_true HRT_.out | (have h_ := HRT_.out; simp at h_ ⊢; exact h_) | (have h_ := HRT_.out; simp at h_ ⊢; omega) | (have h_ := HRT_.out; simp [h_]; done) | (simp [vW, vV] <;> rfl) | (simp [*, vW, vV] <;> rfl), (bb_ HB)⟩
        ·
         replace c18 := Bool.eq_false_iff.mpr c18
         subst c18
         replace H := in_ H
         have H' := jA.mk H
         clear H
         have p713 : 0 ≤ (x11_2 : Int) := of_decide_eq_true am_
         have q713 : x11_2 < (l4.length : Int) := of_decide_eq_true am_
         obtain ⟨ad713, A713_1, c713_1, A713_2, c713_2, e713, hx713_0, hx713_1, hx713_2, hl713_1, hi713_1, hl713_2, hi713_2⟩ := jCt HR4.out x11_2 p713 q713
         cases e713
         replace hx713_0 := (HB.out.cell (World.block_lt_of_cell? w _ hx713_0)).trans hx713_0
         replace hx713_1 := (HB.out.cell (World.block_lt_of_cell? w _ hx713_1)).trans hx713_1
         replace hx713_2 := (HB.out.cell (World.block_lt_of_cell? w _ hx713_2)).trans hx713_2
         have HR713_1 := jA.mk hi713_1
         have HC713_1 := jA.mk hl713_1
         clear hi713_1 hl713_1
         have HR713_2 := jA.mk hi713_2
         have HC713_2 := jA.mk hl713_2
         clear hi713_2 hl713_2
         replace p713 := eq_true p713
         replace q713 := eq_true q713
         go_wp2_with (first | ((with_reducible refine jD (f := 35) rfl ?_); refine gl_ (some 49) Try.func35 #[.agg #[.bool ((vH l4 x11_2).f0), .slice A713_1 ((vH l4 x11_2).f1).length c713_1, .slice A713_2 ((vH l4 x11_2).f2).length c713_2]] ?_; (with_reducible refine (qA.calls ((vH l4 x11_2).f0) _ _ ((vH l4 x11_2).f1) _ _ ((vH l4 x11_2).f2) false _ ?side1 ?side2 ?side3 ?side4 A17.out).mono ?_); (case side1 => exact cb_ HR713_1 HB); (case side2 => exact HC713_1.out); (case side3 => exact cb_ HR713_2 HB); (case side4 => exact HC713_2.out); rintro e w22 ⟨rfl, hb⟩; refine ⟨_, rfl, ?_⟩; replace HB := bs_ HB hb))
         go_roundg k2
         case measure => have := HJ5.out; have := HK2.out; omega
         case rel => exact ⟨(wrap64 (x11_2 + 1)), sd_, H', ⟨by have := HJ5.out; have := HK2.out; omega⟩, ⟨(bb_ HB)⟩⟩
       ·
        rw [if_neg c16] at H
        exact absurd H (by simp)
      ·
       rw [if_neg c15] at H
       have c15b0 := decide_eq_false c15
       clear c15
       replace H := ob_ H
       obtain ⟨⟨t716, t717, t720, t723⟩, A230, H⟩ := H
       try dsimp only at H
       have A23 := jA.mk A230
       clear A230
       replace H := ob_ H
       obtain ⟨⟨t725, t726, t729, t732⟩, A240, H⟩ := H
       try dsimp only at H
       have A24 := jA.mk A240
       clear A240
       replace H := ob_ H
       obtain ⟨⟨t734, t735, t738, t741⟩, A250, H⟩ := H
       try dsimp only at H
       have A25 := jA.mk A250
       clear A250
       replace H := ob_ H
       obtain ⟨⟨t743, t744, t747, t750⟩, A260, H⟩ := H
       try dsimp only at H
       have A26 := jA.mk A260
       clear A260
       obtain ⟨t752, A27, H⟩ := oc_ H
       try dsimp only at H
       by_cases c28 : t752 = true
       ·
        subst c28
        replace H := ip_ H
        by_cases c29 : t723 = t732
        ·
         rw [if_pos c29] at H
         have c29b0 := beq_iff_eq.mpr c29
         have c29b1 := bne_eq_false_iff_eq.mpr c29
         clear c29
         replace H := ob_ H
         obtain ⟨⟨t753, t754, t757⟩, A300, H⟩ := H
         try dsimp only at H
         have A30 := jA.mk A300
         clear A300
         replace H := ob_ H
         obtain ⟨⟨t760, t761, t764⟩, A310, H⟩ := H
         try dsimp only at H
         have A31 := jA.mk A310
         clear A310
         obtain ⟨t767, A32, H⟩ := oc_ H
         try dsimp only at H
         by_cases c33 : t767 = true
         ·
          subst c33
          replace H := ip_ H
          obtain ⟨t768, A34, H⟩ := oc_ H
          try dsimp only at H
          by_cases c35 : t768 = true
          ·
           subst c35
           replace H := ip_ H
           have HRT_ := jA.mk (Option.some.inj H)
           clear H
           go_wp2_with (first | ((with_reducible refine jD (f := 24) rfl ?_); refine gl_ (some 55) Try.func24 #[.bool a0, .slice A1 l1.length c1, .slice A2 l2.length c2] ?_; (with_reducible refine (zq.calls k2 a0 _ _ l1 _ _ l2 t716 t717 t720 t723 _ ?side1 ?side2 ?side3 ?side4 A23.out).mono ?_); (case side1 => exact cb_ HR1 HB); (case side2 => exact HC1.out); (case side3 => exact cb_ HR2 HB); (case side4 => exact HC2.out); rintro e w36 ⟨v718, v721, rfl, ho0, ho1, hb⟩; refine ⟨_, rfl, ?_⟩; have HO719 := jA.mk (Kd.jL ho0 (jB (bb_ HB))); have HO722 := jA.mk (Kd.jL ho1 (jB (bb_ HB))); replace HB := bs_ HB hb) | ((with_reducible refine jW (N := 12) rfl ?_); (try (refine je (by rfl) ?_; dsimp only)); refine bx_ 12 #[.bool false, .slice none 0 0, .slice none 0 0] 44 ?_; intro gb724 hg w37 hbox hb; replace HO719 := ro_ HO719 hb; replace HO722 := ro_ HO722 hb; have BK724 := jA.mk (hbox); have GW724 := jA.mk ((by rw [hg]; exact (jB (bb_ HB)) : w.heap.size ≤ gb724)); have GE724 := GW724; replace HB := bs_ HB hb; clear hb hbox hg; obtain ⟨hcz38_0, hcz38_1, hcz38_2, hfz38_0, hfz38_1, hfz38_2⟩ := bf3_ BK724; obtain ⟨Ao39, co39, rfl⟩ := Kd.jP HO719.out; obtain ⟨Ao40, co40, rfl⟩ := Kd.jP HO722.out) | ((with_reducible refine jD (f := 36) rfl ?_); refine gl_ (some 62) Try.func36 #[.bool a0, .slice A1 l1.length c1, .slice A2 l2.length c2] ?_; (with_reducible refine (zD.calls k2 a0 _ _ l1 _ _ l2 t725 t726 t729 t732 _ ?side1 ?side2 ?side3 ?side4 A24.out).mono ?_); (case side1 => exact Kd.zT HR1.out (bb1_ HB GE724)); (case side2 => exact HC1.out); (case side3 => exact Kd.zT HR2.out (bb1_ HB GE724)); (case side4 => exact HC2.out); rintro e w41 ⟨v727, v730, rfl, ho0, ho1, hb⟩; refine ⟨_, rfl, ?_⟩; have HO728 := jA.mk (Kd.jL (Kd.jG (Kd.jG ho0 (Kd.R_lt (rg3_ HO719 BK724))) (Kd.R_lt (rg3_ HO722 BK724))) (jB (bb1_ HB GE724))); have HO731 := jA.mk (Kd.jL (Kd.jG (Kd.jG ho1 (Kd.R_lt (rg3_ HO719 BK724))) (Kd.R_lt (rg3_ HO722 BK724))) (jB (bb1_ HB GE724))); replace HO719 := jA.mk (Kd.jO (Kd.jo (Kd.jo (Kd.zm (rg3_ HO719 BK724) hb) (Kd.jY ho0)) (Kd.jY ho1)) (fun _ h_ => h_.1)); replace HO722 := jA.mk (Kd.jO (Kd.jo (Kd.jo (Kd.zm (rg3_ HO722 BK724) hb) (Kd.jY ho0)) (Kd.jY ho1)) (fun _ h_ => h_.1)); replace BK724 := jA.mk (vJ (g := gb724) (o := .cells #[.bool t716, .slice Ao39 t717.length co39, .slice Ao40 t720.length co40] 44 (0, 0)) (by refine pk_ ?_; refine jc (cs := #[.bool t716, .slice Ao39 t717.length co39, .slice none 0 0]) ?_ 2 _ rs_; refine pk_ ?_; refine jc (cs := #[.bool t716, .slice none 0 0, .slice none 0 0]) ?_ 1 _ rs_; refine pk_ ?_; refine jc (cs := #[.bool false, .slice none 0 0, .slice none 0 0]) ?_ 0 _ rs_; refine pk_ ?_; exact BK724.out) hb); replace HB := jA.mk (jJ (bb1_ HB GE724) hb)) | ((with_reducible refine jW (N := 14) rfl ?_); (try (refine je (by rfl) ?_; dsimp only)); refine bx_ 14 #[.bool false, .slice none 0 0, .slice none 0 0] 44 ?_; intro gb733 hg w42 hbox hb; replace HO719 := ro_ HO719 hb; replace HO722 := ro_ HO722 hb; replace HO728 := ro_ HO728 hb; replace HO731 := ro_ HO731 hb; have BK733 := jA.mk (hbox); have GW733 := jA.mk ((by rw [hg]; exact (jB (bb1_ HB GE724)) : w.heap.size ≤ gb733)); have GE733 := GW733; replace HB := jA.mk (jJ (bb1_ HB GE724) hb); have NB724_733 := jA.mk ((by rw [hg]; exact nlt_ BK724 : gb724 ≠ gb733)); have NB733_724 := jA.mk ((by rw [hg]; exact ngt_ BK724 : gb733 ≠ gb724)); replace BK724 := bk_ BK724 hb; clear hb hbox hg; have hnb43 := NB733_724.out; have hnc43 := NB724_733.out; obtain ⟨hcz44_0, hcz44_1, hcz44_2, hfz44_0, hfz44_1, hfz44_2⟩ := bf3_ BK733; obtain ⟨Ao45, co45, rfl⟩ := Kd.jP HO728.out; obtain ⟨Ao46, co46, rfl⟩ := Kd.jP HO731.out) | ((with_reducible refine jD (f := 37) rfl ?_); refine gl_ (some 67) Try.func37 #[.slice A4 l4.length c4] ?_; (with_reducible refine (zN.calls k2 _ _ l4 t734 t735 t738 t741 _ ?side1 ?side2 A25.out).mono ?_); (case side1 => exact Kd.zT HR4.out (bb2_ HB GE724 GE733)); (case side2 => exact HC4.out); rintro e w47 ⟨v736, v739, rfl, ho0, ho1, hb⟩; refine ⟨_, rfl, ?_⟩; have HO737 := jA.mk (Kd.jL (Kd.jG (Kd.jG (Kd.jG (Kd.jG ho0 (Kd.R_lt (rg3_ HO719 BK733))) (Kd.R_lt (rg3_ HO722 BK733))) (Kd.R_lt (rg3_ HO728 BK733))) (Kd.R_lt (rg3_ HO731 BK733))) (jB (bb2_ HB GE724 GE733))); have HO740 := jA.mk (Kd.jL (Kd.jG (Kd.jG (Kd.jG (Kd.jG ho1 (Kd.R_lt (rg3_ HO719 BK733))) (Kd.R_lt (rg3_ HO722 BK733))) (Kd.R_lt (rg3_ HO728 BK733))) (Kd.R_lt (rg3_ HO731 BK733))) (jB (bb2_ HB GE724 GE733))); replace HO719 := jA.mk (Kd.jO (Kd.jo (Kd.jo (Kd.zm (rg3_ HO719 BK733) hb) (Kd.jY ho0)) (Kd.jY ho1)) (fun _ h_ => h_.1)); replace HO722 := jA.mk (Kd.jO (Kd.jo (Kd.jo (Kd.zm (rg3_ HO722 BK733) hb) (Kd.jY ho0)) (Kd.jY ho1)) (fun _ h_ => h_.1)); replace HO728 := jA.mk (Kd.jO (Kd.jo (Kd.jo (Kd.zm (rg3_ HO728 BK733) hb) (Kd.jY ho0)) (Kd.jY ho1)) (fun _ h_ => h_.1)); replace HO731 := jA.mk (Kd.jO (Kd.jo (Kd.jo (Kd.zm (rg3_ HO731 BK733) hb) (Kd.jY ho0)) (Kd.jY ho1)) (fun _ h_ => h_.1)); replace BK724 := jA.mk (vJ (g := gb724) (o := .cells #[.bool t716, .slice Ao39 t717.length co39, .slice Ao40 t720.length co40] 44 (0, 0)) (by refine pk_ ?_; refine vP ?_ NB724_733.out _; refine pk_ ?_; refine vP ?_ NB724_733.out _; refine pk_ ?_; refine vP ?_ NB724_733.out _; refine pk_ ?_; exact BK724.out) hb); replace BK733 := jA.mk (vJ (g := gb733) (o := .cells #[.bool t725, .slice Ao45 t726.length co45, .slice Ao46 t729.length co46] 44 (0, 0)) (by refine pk_ ?_; refine jc (cs := #[.bool t725, .slice Ao45 t726.length co45, .slice none 0 0]) ?_ 2 _ rs_; refine pk_ ?_; refine jc (cs := #[.bool t725, .slice none 0 0, .slice none 0 0]) ?_ 1 _ rs_; refine pk_ ?_; refine jc (cs := #[.bool false, .slice none 0 0, .slice none 0 0]) ?_ 0 _ rs_; refine pk_ ?_; exact BK733.out) hb); replace HB := jA.mk (jJ (bb2_ HB GE724 GE733) hb)) | ((with_reducible refine jW (N := 16) rfl ?_); (try (refine je (by rfl) ?_; dsimp only)); refine bx_ 16 #[.bool false, .slice none 0 0, .slice none 0 0] 44 ?_; intro gb742 hg w48 hbox hb; replace HO719 := ro_ HO719 hb; replace HO722 := ro_ HO722 hb; replace HO728 := ro_ HO728 hb; replace HO731 := ro_ HO731 hb; replace HO737 := ro_ HO737 hb; replace HO740 := ro_ HO740 hb; have BK742 := jA.mk (hbox); have GW742 := jA.mk ((by rw [hg]; exact (jB (bb2_ HB GE724 GE733)) : w.heap.size ≤ gb742)); have GE742 := GW742; replace HB := jA.mk (jJ (bb2_ HB GE724 GE733) hb); have NB724_742 := jA.mk ((by rw [hg]; exact nlt_ BK724 : gb724 ≠ gb742)); have NB742_724 := jA.mk ((by rw [hg]; exact ngt_ BK724 : gb742 ≠ gb724)); replace BK724 := bk_ BK724 hb; have NB733_742 := jA.mk ((by rw [hg]; exact nlt_ BK733 : gb733 ≠ gb742)); have NB742_733 := jA.mk ((by rw [hg]; exact ngt_ BK733 : gb742 ≠ gb733)); replace BK733 := bk_ BK733 hb; clear hb hbox hg; have hnb49 := NB742_724.out; have hnc49 := NB724_742.out; have hnb50 := NB742_733.out; have hnc50 := NB733_742.out; obtain ⟨hcz51_0, hcz51_1, hcz51_2, hfz51_0, hfz51_1, hfz51_2⟩ := bf3_ BK742; obtain ⟨Ao52, co52, rfl⟩ := Kd.jP HO737.out; obtain ⟨Ao53, co53, rfl⟩ := Kd.jP HO740.out) | ((with_reducible refine jD (f := 38) rfl ?_); refine gl_ (some 72) Try.func38 #[.slice A4 l4.length c4] ?_; (with_reducible refine (jd.calls k2 _ _ l4 t743 t744 t747 t750 _ ?side1 ?side2 A26.out).mono ?_); (case side1 => exact Kd.zT HR4.out (bb3_ HB GE724 GE733 GE742)); (case side2 => exact HC4.out); rintro e w54 ⟨v745, v748, rfl, ho0, ho1, hb⟩; refine ⟨_, rfl, ?_⟩; have HO746 := jA.mk (Kd.jL (Kd.jG (Kd.jG (Kd.jG (Kd.jG (Kd.jG (Kd.jG ho0 (Kd.R_lt (rg3_ HO719 BK742))) (Kd.R_lt (rg3_ HO722 BK742))) (Kd.R_lt (rg3_ HO728 BK742))) (Kd.R_lt (rg3_ HO731 BK742))) (Kd.R_lt (rg3_ HO737 BK742))) (Kd.R_lt (rg3_ HO740 BK742))) (jB (bb3_ HB GE724 GE733 GE742))); have HO749 := jA.mk (Kd.jL (Kd.jG (Kd.jG (Kd.jG (Kd.jG (Kd.jG (Kd.jG ho1 (Kd.R_lt (rg3_ HO719 BK742))) (Kd.R_lt (rg3_ HO722 BK742))) (Kd.R_lt (rg3_ HO728 BK742))) (Kd.R_lt (rg3_ HO731 BK742))) (Kd.R_lt (rg3_ HO737 BK742))) (Kd.R_lt (rg3_ HO740 BK742))) (jB (bb3_ HB GE724 GE733 GE742))); replace HO719 := jA.mk (Kd.jO (Kd.jo (Kd.jo (Kd.zm (rg3_ HO719 BK742) hb) (Kd.jY ho0)) (Kd.jY ho1)) (fun _ h_ => h_.1)); replace HO722 := jA.mk (Kd.jO (Kd.jo (Kd.jo (Kd.zm (rg3_ HO722 BK742) hb) (Kd.jY ho0)) (Kd.jY ho1)) (fun _ h_ => h_.1)); replace HO728 := jA.mk (Kd.jO (Kd.jo (Kd.jo (Kd.zm (rg3_ HO728 BK742) hb) (Kd.jY ho0)) (Kd.jY ho1)) (fun _ h_ => h_.1)); replace HO731 := jA.mk (Kd.jO (Kd.jo (Kd.jo (Kd.zm (rg3_ HO731 BK742) hb) (Kd.jY ho0)) (Kd.jY ho1)) (fun _ h_ => h_.1)); replace HO737 := jA.mk (Kd.jO (Kd.jo (Kd.jo (Kd.zm (rg3_ HO737 BK742) hb) (Kd.jY ho0)) (Kd.jY ho1)) (fun _ h_ => h_.1)); replace HO740 := jA.mk (Kd.jO (Kd.jo (Kd.jo (Kd.zm (rg3_ HO740 BK742) hb) (Kd.jY ho0)) (Kd.jY ho1)) (fun _ h_ => h_.1)); replace BK724 := jA.mk (vJ (g := gb724) (o := .cells #[.bool t716, .slice Ao39 t717.length co39, .slice Ao40 t720.length co40] 44 (0, 0)) (by refine pk_ ?_; refine vP ?_ NB724_742.out _; refine pk_ ?_; refine vP ?_ NB724_742.out _; refine pk_ ?_; refine vP ?_ NB724_742.out _; refine pk_ ?_; exact BK724.out) hb); replace BK733 := jA.mk (vJ (g := gb733) (o := .cells #[.bool t725, .slice Ao45 t726.length co45, .slice Ao46 t729.length co46] 44 (0, 0)) (by refine pk_ ?_; refine vP ?_ NB733_742.out _; refine pk_ ?_; refine vP ?_ NB733_742.out _; refine pk_ ?_; refine vP ?_ NB733_742.out _; refine pk_ ?_; exact BK733.out) hb); replace BK742 := jA.mk (vJ (g := gb742) (o := .cells #[.bool t734, .slice Ao52 t735.length co52, .slice Ao53 t738.length co53] 44 (0, 0)) (by refine pk_ ?_; refine jc (cs := #[.bool t734, .slice Ao52 t735.length co52, .slice none 0 0]) ?_ 2 _ rs_; refine pk_ ?_; refine jc (cs := #[.bool t734, .slice none 0 0, .slice none 0 0]) ?_ 1 _ rs_; refine pk_ ?_; refine jc (cs := #[.bool false, .slice none 0 0, .slice none 0 0]) ?_ 0 _ rs_; refine pk_ ?_; exact BK742.out) hb); replace HB := jA.mk (jJ (bb3_ HB GE724 GE733 GE742) hb)) | ((with_reducible refine jW (N := 18) rfl ?_); (try (refine je (by rfl) ?_; dsimp only)); refine bx_ 18 #[.bool false, .slice none 0 0, .slice none 0 0] 44 ?_; intro gb751 hg w55 hbox hb; replace HO719 := ro_ HO719 hb; replace HO722 := ro_ HO722 hb; replace HO728 := ro_ HO728 hb; replace HO731 := ro_ HO731 hb; replace HO737 := ro_ HO737 hb; replace HO740 := ro_ HO740 hb; replace HO746 := ro_ HO746 hb; replace HO749 := ro_ HO749 hb; have BK751 := jA.mk (hbox); have GW751 := jA.mk ((by rw [hg]; exact (jB (bb3_ HB GE724 GE733 GE742)) : w.heap.size ≤ gb751)); have GE751 := GW751; replace HB := jA.mk (jJ (bb3_ HB GE724 GE733 GE742) hb); have NB724_751 := jA.mk ((by rw [hg]; exact nlt_ BK724 : gb724 ≠ gb751)); have NB751_724 := jA.mk ((by rw [hg]; exact ngt_ BK724 : gb751 ≠ gb724)); replace BK724 := bk_ BK724 hb; have NB733_751 := jA.mk ((by rw [hg]; exact nlt_ BK733 : gb733 ≠ gb751)); have NB751_733 := jA.mk ((by rw [hg]; exact ngt_ BK733 : gb751 ≠ gb733)); replace BK733 := bk_ BK733 hb; have NB742_751 := jA.mk ((by rw [hg]; exact nlt_ BK742 : gb742 ≠ gb751)); have NB751_742 := jA.mk ((by rw [hg]; exact ngt_ BK742 : gb751 ≠ gb742)); replace BK742 := bk_ BK742 hb; clear hb hbox hg; have hnb56 := NB751_724.out; have hnc56 := NB724_751.out; have hnb57 := NB751_733.out; have hnc57 := NB733_751.out; have hnb58 := NB751_742.out; have hnc58 := NB742_751.out; obtain ⟨hcz59_0, hcz59_1, hcz59_2, hfz59_0, hfz59_1, hfz59_2⟩ := bf3_ BK751; obtain ⟨Ao60, co60, rfl⟩ := Kd.jP HO746.out; obtain ⟨Ao61, co61, rfl⟩ := Kd.jP HO749.out; obtain ⟨hcz62_0, hcz62_1, hcz62_2, hfz62_0, hfz62_1, hfz62_2⟩ := bf3_ BK724; obtain ⟨hcz63_0, hcz63_1, hcz63_2, hfz63_0, hfz63_1, hfz63_2⟩ := bf3_ BK733) | ((with_reducible refine jDQ (t := 75) rfl ?_); refine jJT (some 78) rfl rfl Try.func26 kr_ rfl #[.agg #[.bool t716, .slice Ao39 t717.length co39, .slice Ao40 t720.length co40], .agg #[.bool t725, .slice Ao45 t726.length co45, .slice Ao46 t729.length co46]] rfl rfl mt_ ?_; (with_reducible refine (jy.calls k2 t716 _ _ t717 _ _ t720 t725 _ _ t726 _ _ t729 true _ ?side1 ?side2 ?side3 ?side4 ?side5 ?side6 ?side7 ?side8 A27.out).mono ?_); (case side1 => refine (Kd.jC (e := 22) (base := w.heap.size) (ok := fun k_ => ((((((some k_ ≠ (.slice Ao40 t720.length co40 : Value).ownBlock ∧ some k_ ≠ (.slice Ao45 t726.length co45 : Value).ownBlock) ∧ some k_ ≠ (.slice Ao46 t729.length co46 : Value).ownBlock) ∧ some k_ ≠ (.slice Ao52 t735.length co52 : Value).ownBlock) ∧ some k_ ≠ (.slice Ao53 t738.length co53 : Value).ownBlock) ∧ some k_ ≠ (.slice Ao60 t744.length co60 : Value).ownBlock) ∧ some k_ ≠ (.slice Ao61 t747.length co61 : Value).ownBlock)) (n := t717.length) (c := co39) ?_).2.2; exact (rg3_ HO719 BK751)); (case side2 => exact (Kd.jC HO719.out).2.1); (case side3 => refine (Kd.jC (e := 22) (base := w.heap.size) (ok := fun k_ => ((((((some k_ ≠ (.slice Ao39 t717.length co39 : Value).ownBlock ∧ some k_ ≠ (.slice Ao45 t726.length co45 : Value).ownBlock) ∧ some k_ ≠ (.slice Ao46 t729.length co46 : Value).ownBlock) ∧ some k_ ≠ (.slice Ao52 t735.length co52 : Value).ownBlock) ∧ some k_ ≠ (.slice Ao53 t738.length co53 : Value).ownBlock) ∧ some k_ ≠ (.slice Ao60 t744.length co60 : Value).ownBlock) ∧ some k_ ≠ (.slice Ao61 t747.length co61 : Value).ownBlock)) (n := t720.length) (c := co40) ?_).2.2; exact (rg3_ HO722 BK751)); (case side4 => exact (Kd.jC HO722.out).2.1); (case side5 => refine (Kd.jC (e := 22) (base := w.heap.size) (ok := fun k_ => ((((((some k_ ≠ (.slice Ao46 t729.length co46 : Value).ownBlock ∧ some k_ ≠ (.slice Ao39 t717.length co39 : Value).ownBlock) ∧ some k_ ≠ (.slice Ao40 t720.length co40 : Value).ownBlock) ∧ some k_ ≠ (.slice Ao52 t735.length co52 : Value).ownBlock) ∧ some k_ ≠ (.slice Ao53 t738.length co53 : Value).ownBlock) ∧ some k_ ≠ (.slice Ao60 t744.length co60 : Value).ownBlock) ∧ some k_ ≠ (.slice Ao61 t747.length co61 : Value).ownBlock)) (n := t726.length) (c := co45) ?_).2.2; exact (rg3_ HO728 BK751)); (case side6 => exact (Kd.jC HO728.out).2.1); (case side7 => refine (Kd.jC (e := 22) (base := w.heap.size) (ok := fun k_ => ((((((some k_ ≠ (.slice Ao45 t726.length co45 : Value).ownBlock ∧ some k_ ≠ (.slice Ao39 t717.length co39 : Value).ownBlock) ∧ some k_ ≠ (.slice Ao40 t720.length co40 : Value).ownBlock) ∧ some k_ ≠ (.slice Ao52 t735.length co52 : Value).ownBlock) ∧ some k_ ≠ (.slice Ao53 t738.length co53 : Value).ownBlock) ∧ some k_ ≠ (.slice Ao60 t744.length co60 : Value).ownBlock) ∧ some k_ ≠ (.slice Ao61 t747.length co61 : Value).ownBlock)) (n := t729.length) (c := co46) ?_).2.2; exact (rg3_ HO731 BK751)); (case side8 => exact (Kd.jC HO731.out).2.1); rintro e w64 ⟨rfl, hb⟩; refine ⟨_, rfl, ?_⟩; replace HO719 := jA.mk (Kd.qo (rg3_ HO719 BK751) hb); replace HO722 := jA.mk (Kd.qo (rg3_ HO722 BK751) hb); replace HO728 := jA.mk (Kd.qo (rg3_ HO728 BK751) hb); replace HO731 := jA.mk (Kd.qo (rg3_ HO731 BK751) hb); replace HO737 := jA.mk (Kd.qo (rg3_ HO737 BK751) hb); replace HO740 := jA.mk (Kd.qo (rg3_ HO740 BK751) hb); replace HO746 := jA.mk (Kd.qo (rg3_ HO746 BK751) hb); replace HO749 := jA.mk (Kd.qo (rg3_ HO749 BK751) hb); replace BK724 := jA.mk (vJ (g := gb724) (o := .cells #[.bool t716, .slice Ao39 t717.length co39, .slice Ao40 t720.length co40] 44 (0, 0)) (by refine pk_ ?_; refine vP ?_ NB724_751.out _; refine pk_ ?_; refine vP ?_ NB724_751.out _; refine pk_ ?_; refine vP ?_ NB724_751.out _; refine pk_ ?_; exact BK724.out) hb); replace BK733 := jA.mk (vJ (g := gb733) (o := .cells #[.bool t725, .slice Ao45 t726.length co45, .slice Ao46 t729.length co46] 44 (0, 0)) (by refine pk_ ?_; refine vP ?_ NB733_751.out _; refine pk_ ?_; refine vP ?_ NB733_751.out _; refine pk_ ?_; refine vP ?_ NB733_751.out _; refine pk_ ?_; exact BK733.out) hb); replace BK742 := jA.mk (vJ (g := gb742) (o := .cells #[.bool t734, .slice Ao52 t735.length co52, .slice Ao53 t738.length co53] 44 (0, 0)) (by refine pk_ ?_; refine vP ?_ NB742_751.out _; refine pk_ ?_; refine vP ?_ NB742_751.out _; refine pk_ ?_; refine vP ?_ NB742_751.out _; refine pk_ ?_; exact BK742.out) hb); replace BK751 := jA.mk (vJ (g := gb751) (o := .cells #[.bool t743, .slice Ao60 t744.length co60, .slice Ao61 t747.length co61] 44 (0, 0)) (by refine pk_ ?_; refine jc (cs := #[.bool t743, .slice Ao60 t744.length co60, .slice none 0 0]) ?_ 2 _ rs_; refine pk_ ?_; refine jc (cs := #[.bool t743, .slice none 0 0, .slice none 0 0]) ?_ 1 _ rs_; refine pk_ ?_; refine jc (cs := #[.bool false, .slice none 0 0, .slice none 0 0]) ?_ 0 _ rs_; refine pk_ ?_; exact BK751.out) hb); replace HB := jA.mk (jJ (bb4_ HB GE724 GE733 GE742 GE751) hb)) | (go_at_call 39; (with_reducible refine (zW.calls a3 t753 t754 t757 _ A30.out).mono ?_); rintro e w65 ⟨v755, v758, rfl, ho0, ho1, hb⟩; have HO756 := jA.mk (Kd.jL (Kd.jG (Kd.jG (Kd.jG (Kd.jG (Kd.jG (Kd.jG (Kd.jG (Kd.jG ho0 (Kd.R_lt (rR_ HO719))) (Kd.R_lt (rR_ HO722))) (Kd.R_lt (rR_ HO728))) (Kd.R_lt (rR_ HO731))) (Kd.R_lt (rR_ HO737))) (Kd.R_lt (rR_ HO740))) (Kd.R_lt (rR_ HO746))) (Kd.R_lt (rR_ HO749))) (jB (bb4_ HB GE724 GE733 GE742 GE751))); have HO759 := jA.mk (Kd.jL (Kd.jG (Kd.jG (Kd.jG (Kd.jG (Kd.jG (Kd.jG (Kd.jG (Kd.jG ho1 (Kd.R_lt (rR_ HO719))) (Kd.R_lt (rR_ HO722))) (Kd.R_lt (rR_ HO728))) (Kd.R_lt (rR_ HO731))) (Kd.R_lt (rR_ HO737))) (Kd.R_lt (rR_ HO740))) (Kd.R_lt (rR_ HO746))) (Kd.R_lt (rR_ HO749))) (jB (bb4_ HB GE724 GE733 GE742 GE751))); replace HO719 := jA.mk (Kd.jO (Kd.jo (Kd.jo (Kd.zm (rR_ HO719) hb) (Kd.jY ho0)) (Kd.jY ho1)) (fun _ h_ => h_.1)); replace HO722 := jA.mk (Kd.jO (Kd.jo (Kd.jo (Kd.zm (rR_ HO722) hb) (Kd.jY ho0)) (Kd.jY ho1)) (fun _ h_ => h_.1)); replace HO728 := jA.mk (Kd.jO (Kd.jo (Kd.jo (Kd.zm (rR_ HO728) hb) (Kd.jY ho0)) (Kd.jY ho1)) (fun _ h_ => h_.1)); replace HO731 := jA.mk (Kd.jO (Kd.jo (Kd.jo (Kd.zm (rR_ HO731) hb) (Kd.jY ho0)) (Kd.jY ho1)) (fun _ h_ => h_.1)); replace HO737 := jA.mk (Kd.jO (Kd.jo (Kd.jo (Kd.zm (rR_ HO737) hb) (Kd.jY ho0)) (Kd.jY ho1)) (fun _ h_ => h_.1)); replace HO740 := jA.mk (Kd.jO (Kd.jo (Kd.jo (Kd.zm (rR_ HO740) hb) (Kd.jY ho0)) (Kd.jY ho1)) (fun _ h_ => h_.1)); replace HO746 := jA.mk (Kd.jO (Kd.jo (Kd.jo (Kd.zm (rR_ HO746) hb) (Kd.jY ho0)) (Kd.jY ho1)) (fun _ h_ => h_.1)); replace HO749 := jA.mk (Kd.jO (Kd.jo (Kd.jo (Kd.zm (rR_ HO749) hb) (Kd.jY ho0)) (Kd.jY ho1)) (fun _ h_ => h_.1)); replace BK724 := bk_ BK724 hb; replace BK733 := bk_ BK733 hb; replace BK742 := bk_ BK742 hb; replace BK751 := bk_ BK751 hb; replace HB := jA.mk (jJ (bb4_ HB GE724 GE733 GE742 GE751) hb)) | (go_at_call 40; (with_reducible refine (zH.calls k2 a3 t760 t761 t764 _ A31.out).mono ?_); rintro e w66 ⟨v762, v765, rfl, ho0, ho1, hb⟩; have HO763 := jA.mk (Kd.jL (Kd.jG (Kd.jG (Kd.jG (Kd.jG (Kd.jG (Kd.jG (Kd.jG (Kd.jG (Kd.jG (Kd.jG ho0 (Kd.R_lt (rR_ HO719))) (Kd.R_lt (rR_ HO722))) (Kd.R_lt (rR_ HO728))) (Kd.R_lt (rR_ HO731))) (Kd.R_lt (rR_ HO737))) (Kd.R_lt (rR_ HO740))) (Kd.R_lt (rR_ HO746))) (Kd.R_lt (rR_ HO749))) (Kd.R_lt (rR_ HO756))) (Kd.R_lt (rR_ HO759))) (jB (bb4_ HB GE724 GE733 GE742 GE751))); have HO766 := jA.mk (Kd.jL (Kd.jG (Kd.jG (Kd.jG (Kd.jG (Kd.jG (Kd.jG (Kd.jG (Kd.jG (Kd.jG (Kd.jG ho1 (Kd.R_lt (rR_ HO719))) (Kd.R_lt (rR_ HO722))) (Kd.R_lt (rR_ HO728))) (Kd.R_lt (rR_ HO731))) (Kd.R_lt (rR_ HO737))) (Kd.R_lt (rR_ HO740))) (Kd.R_lt (rR_ HO746))) (Kd.R_lt (rR_ HO749))) (Kd.R_lt (rR_ HO756))) (Kd.R_lt (rR_ HO759))) (jB (bb4_ HB GE724 GE733 GE742 GE751))); replace HO719 := jA.mk (Kd.jO (Kd.jo (Kd.jo (Kd.zm (rR_ HO719) hb) (Kd.jY ho0)) (Kd.jY ho1)) (fun _ h_ => h_.1)); replace HO722 := jA.mk (Kd.jO (Kd.jo (Kd.jo (Kd.zm (rR_ HO722) hb) (Kd.jY ho0)) (Kd.jY ho1)) (fun _ h_ => h_.1)); replace HO728 := jA.mk (Kd.jO (Kd.jo (Kd.jo (Kd.zm (rR_ HO728) hb) (Kd.jY ho0)) (Kd.jY ho1)) (fun _ h_ => h_.1)); replace HO731 := jA.mk (Kd.jO (Kd.jo (Kd.jo (Kd.zm (rR_ HO731) hb) (Kd.jY ho0)) (Kd.jY ho1)) (fun _ h_ => h_.1)); replace HO737 := jA.mk (Kd.jO (Kd.jo (Kd.jo (Kd.zm (rR_ HO737) hb) (Kd.jY ho0)) (Kd.jY ho1)) (fun _ h_ => h_.1)); replace HO740 := jA.mk (Kd.jO (Kd.jo (Kd.jo (Kd.zm (rR_ HO740) hb) (Kd.jY ho0)) (Kd.jY ho1)) (fun _ h_ => h_.1)); replace HO746 := jA.mk (Kd.jO (Kd.jo (Kd.jo (Kd.zm (rR_ HO746) hb) (Kd.jY ho0)) (Kd.jY ho1)) (fun _ h_ => h_.1)); replace HO749 := jA.mk (Kd.jO (Kd.jo (Kd.jo (Kd.zm (rR_ HO749) hb) (Kd.jY ho0)) (Kd.jY ho1)) (fun _ h_ => h_.1)); replace HO756 := jA.mk (Kd.jO (Kd.jo (Kd.jo (Kd.zm (rR_ HO756) hb) (Kd.jY ho0)) (Kd.jY ho1)) (fun _ h_ => h_.1)); replace HO759 := jA.mk (Kd.jO (Kd.jo (Kd.jo (Kd.zm (rR_ HO759) hb) (Kd.jY ho0)) (Kd.jY ho1)) (fun _ h_ => h_.1)); replace BK724 := bk_ BK724 hb; replace BK733 := bk_ BK733 hb; replace BK742 := bk_ BK742 hb; replace BK751 := bk_ BK751 hb; replace HB := jA.mk (jJ (bb4_ HB GE724 GE733 GE742 GE751) hb); obtain ⟨Ao67, co67, rfl⟩ := Kd.jP HO756.out; obtain ⟨Ao68, co68, rfl⟩ := Kd.jP HO759.out; obtain ⟨Ao69, co69, rfl⟩ := Kd.jP HO763.out; obtain ⟨Ao70, co70, rfl⟩ := Kd.jP HO766.out) | (go_at_call 26; (with_reducible refine (jy.calls k2 t753 _ _ t754 _ _ t757 t760 _ _ t761 _ _ t764 true _ ?side1 ?side2 ?side3 ?side4 ?side5 ?side6 ?side7 ?side8 A32.out).mono ?_); (case side1 => exact cc_ (Kd.jC HO756.out).2.2); (case side2 => exact (Kd.jC HO756.out).2.1); (case side3 => exact cc_ (Kd.jC HO759.out).2.2); (case side4 => exact (Kd.jC HO759.out).2.1); (case side5 => exact cc_ (Kd.jC HO763.out).2.2); (case side6 => exact (Kd.jC HO763.out).2.1); (case side7 => exact cc_ (Kd.jC HO766.out).2.2); (case side8 => exact (Kd.jC HO766.out).2.1); rintro e w71 ⟨rfl, hb⟩; replace HO719 := ro_ HO719 hb; replace HO722 := ro_ HO722 hb; replace HO728 := ro_ HO728 hb; replace HO731 := ro_ HO731 hb; replace HO737 := ro_ HO737 hb; replace HO740 := ro_ HO740 hb; replace HO746 := ro_ HO746 hb; replace HO749 := ro_ HO749 hb; replace HO756 := ro_ HO756 hb; replace HO759 := ro_ HO759 hb; replace HO763 := ro_ HO763 hb; replace HO766 := ro_ HO766 hb; replace BK724 := bk_ BK724 hb; replace BK733 := bk_ BK733 hb; replace BK742 := bk_ BK742 hb; replace BK751 := bk_ BK751 hb; replace HB := jA.mk (jJ (bb4_ HB GE724 GE733 GE742 GE751) hb); obtain ⟨hcz72_0, hcz72_1, hcz72_2, hfz72_0, hfz72_1, hfz72_2⟩ := bf3_ BK742; obtain ⟨hcz73_0, hcz73_1, hcz73_2, hfz73_0, hfz73_1, hfz73_2⟩ := bf3_ BK751) | (go_at_call 26; (with_reducible refine (jy.calls k2 t734 _ _ t735 _ _ t738 t743 _ _ t744 _ _ t747 true _ ?side1 ?side2 ?side3 ?side4 ?side5 ?side6 ?side7 ?side8 A34.out).mono ?_); (case side1 => exact cc_ (Kd.jC HO737.out).2.2); (case side2 => exact (Kd.jC HO737.out).2.1); (case side3 => exact cc_ (Kd.jC HO740.out).2.2); (case side4 => exact (Kd.jC HO740.out).2.1); (case side5 => exact cc_ (Kd.jC HO746.out).2.2); (case side6 => exact (Kd.jC HO746.out).2.1); (case side7 => exact cc_ (Kd.jC HO749.out).2.2); (case side8 => exact (Kd.jC HO749.out).2.1); rintro e w74 ⟨rfl, hb⟩; replace HO719 := ro_ HO719 hb; replace HO722 := ro_ HO722 hb; replace HO728 := ro_ HO728 hb; replace HO731 := ro_ HO731 hb; replace HO737 := ro_ HO737 hb; replace HO740 := ro_ HO740 hb; replace HO746 := ro_ HO746 hb; replace HO749 := ro_ HO749 hb; replace HO756 := ro_ HO756 hb; replace HO759 := ro_ HO759 hb; replace HO763 := ro_ HO763 hb; replace HO766 := ro_ HO766 hb; replace BK724 := bk_ BK724 hb; replace BK733 := bk_ BK733 hb; replace BK742 := bk_ BK742 hb; replace BK751 := bk_ BK751 hb; replace HB := jA.mk (jJ (bb4_ HB GE724 GE733 GE742 GE751) hb)))
           go_ret
           exact ⟨by first | rfl | (rw [HRT_.out]; rfl) | (simp only [HRT_.out]; done) | exact of_decide_eq_true HRT_.out | (have h_ := HRT_.out; simp at h_ ⊢; exact h_) | (have h_ := HRT_.out; simp at h_ ⊢; omega) | (have h_ := HRT_.out; simp [h_]; done) | (simp [vW, vV] <;> rfl) | (simp [*, vW, vV] <;> rfl), (bb4_ HB GE724 GE733 GE742 GE751)⟩
          ·
           replace c35 := Bool.eq_false_iff.mpr c35
           subst c35
           replace H := in_ H
           exact absurd H (by simp)
         ·
          replace c33 := Bool.eq_false_iff.mpr c33
          subst c33
          replace H := in_ H
          exact absurd H (by simp)
        ·
         rw [if_neg c29] at H
         have c29b0 := beq_eq_false_iff_ne.mpr c29
         have c29b1 := bne_iff_ne.mpr c29
         exact absurd H (by simp)
       ·
        replace c28 := Bool.eq_false_iff.mpr c28
        subst c28
        replace H := in_ H
        exact absurd H (by simp)
/-- What is told of a parameter. -/
def syzygylaw05_RatioMakes.wf44 (x : S44) : Prop := True ∧ ((x.f1.length ≤ maxLen ∧ ∀ y0_ ∈ x.f1, (Lit.int .u64 y0_).wf = true) ∧ (x.f2.length ≤ maxLen ∧ ∀ y0_ ∈ x.f2, (Lit.int .u64 y0_).wf = true))
/-- THE ONE PURE STATEMENT of syzygylaw05_RatioMakes: yours. -/
def syzygylaw05_RatioMakes.Pure : Prop := ∀ (a0 : Bool) (l1 : List Int) (l2 : List Int) (a3 : Int) (l4 : List (S44)), l1.length ≤ maxLen → (∀ x ∈ l1, (Lit.int .u64 x).wf = true) → l2.length ≤ maxLen → (∀ x ∈ l2, (Lit.int .u64 x).wf = true) → (Lit.int .i64 a3).wf = true → l4.length ≤ maxLen → (∀ x ∈ l4, syzygylaw05_RatioMakes.wf44 x) → ∃ k, syzygylaw05_RatioMakes.f k a0 l1 l2 a3 l4 = some true
theorem syzygylaw05_RatioMakes.walk (P : syzygylaw05_RatioMakes.Pure) (a0 : Bool) (A1 : Option Addr) (c1 : Nat) (l1 : List Int) (A2 : Option Addr) (c2 : Nat) (l2 : List Int) (a3 : Int) (A4 : Option Addr) (c4 : Nat) (l4 : List (S44)) (w : World) (hr1 : Kd.C (Kd.int .u64) w A1 l1.length l1) (hc1 : l1.length ≤ c1) (hr2 : Kd.C (Kd.int .u64) w A2 l2.length l2) (hc2 : l2.length ≤ c2) (hr4 : Kd.C k44 w A4 l4.length l4) (hc4 : l4.length ≤ c4) (f0 : l1.length ≤ maxLen) (f1 : (∀ x ∈ l1, (Lit.int .u64 x).wf = true)) (f2 : l2.length ≤ maxLen) (f3 : (∀ x ∈ l2, (Lit.int .u64 x).wf = true)) (f4 : (Lit.int .i64 a3).wf = true) (f5 : l4.length ≤ maxLen) (f6 : (∀ x ∈ l4, syzygylaw05_RatioMakes.wf44 x)) :
  Calls Try.prog 7 #[.bool a0, .slice A1 l1.length c1, .slice A2 l2.length c2, .int .i64 a3, .slice A4 l4.length c4] w fun e w' => e = .returned (.bool true) ∧ Below w.heap.size w w' := by
 obtain ⟨k, h⟩ := P a0 l1 l2 a3 l4 f0 f1 f2 f3 f4 f5 f6
 refine (syzygylaw05_RatioMakes.calls k a0 A1 c1 l1 A2 c2 l2 a3 A4 c4 l4 w hr1 hc1 hr2 hc2 hr4 hc4 h).mono ?_
 rintro e w' ⟨rfl, hd⟩
 exact ⟨rfl, hd⟩
end Go.Proofs.Ytijgeonhbmgikaa.PORatioMakes
