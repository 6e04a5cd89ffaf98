-- printed (pr.py)
import Derived.Test.YtijgeonhbmgikaaPORatioOrderx0
import Derived.Test.YtijgeonhbmgikaaPORatioOrderx1
import Derived.Test.YtijgeonhbmgikaaPORatioOrderx10
import Derived.Test.YtijgeonhbmgikaaPORatioOrderx15
import Derived.Test.YtijgeonhbmgikaaPORatioOrderx16
namespace Go.Proofs.Ytijgeonhbmgikaa.PORatioOrder
open Go.RowKit Go.Proofs.YtijgeonhbmgikaaN Go.Proofs.YtijgeonhbmgikaaW.PrintWords Go.Proofs.YtijgeonhbmgikaaW.PrintLast Go.Proofs.YtijgeonhbmgikaaW.PrintMore
attribute [local go_sem] qU qP qp qo zx zw qR qO
set_option maxHeartbeats 8000000
set_option maxRecDepth 100000
set_option linter.unusedVariables false
set_option linter.unusedSimpArgs false

/-! ### syzygylaw05_RatioOrder: function 11 -/
def syzygylaw05_RatioOrder.f (k : Nat) (a0_0 : Bool) (a0_1 : Bool) (a0_2 : Bool) (a0_3 : Int) (a0_4 : Int) (a0_5 : Int) (a0_6 : Int) (a0_7 : Int) (a0_8 : Int) : Option (Bool) := (vP.f k a0_0 a0_3 a0_6).bind fun bt653 => ((vP.f k a0_1 a0_4 a0_7).bind fun bt661 => ((vP.f k a0_2 a0_5 a0_8).bind fun bt669 => ((vO.f k bt653.1 bt653.2.1 bt653.2.2 bt669.1 bt669.2.1 bt669.2.2).bind fun bt677 => ((vO.f k bt661.1 bt661.2.1 bt661.2.2 bt669.1 bt669.2.1 bt669.2.2).bind fun bt686 => ((vK.f k bt653.1 bt653.2.1 bt653.2.2 bt669.1 bt669.2.1 bt669.2.2).bind fun bt695 => ((vK.f k bt661.1 bt661.2.1 bt661.2.2 bt669.1 bt669.2.1 bt669.2.2).bind fun bt704 => ((vN.f k bt653.1 bt653.2.1 bt653.2.2 bt661.1 bt661.2.1 bt661.2.2).bind fun t713 => ((zY.f 0).bind fun bt714 => ((vN.f k bt669.1 bt669.2.1 bt669.2.2 bt714.1 bt714.2.1 bt714.2.2).bind fun t721 => (if bt677.2.2.2 = 0 then (if bt686.2.2.2 = 0 then (if bt695.2.2.2 = 0 then (if bt704.2.2.2 = 0 then ((vN.f k bt661.1 bt661.2.1 bt661.2.2 bt653.1 bt653.2.1 bt653.2.2).bind fun t722 => (if t713 = (wrap64 (-t722)) then ((vB.f k bt653.1 bt653.2.1 bt653.2.2 bt661.1 bt661.2.1 bt661.2.2).bind fun t723 => (if ((t713 == 0) == t723) = true then ((vN.f k bt677.1 bt677.2.1 bt677.2.2.1 bt686.1 bt686.2.1 bt686.2.2.1).bind fun t724 => (if t724 = t713 then ((vN.f k bt695.1 bt695.2.1 bt695.2.2.1 bt704.1 bt704.2.1 bt704.2.2.1).bind fun t725 => (if t725 = (wrap64 (t713 * t721)) then ((zD.f k).bind fun t726 => (some t726)) else (some false))) else (some false))) else (some false))) else (some false))) else (some false)) else (some false)) else (some false)) else (some false)))))))))))
theorem syzygylaw05_RatioOrder.mono : ∀ a0 a1 a2 a3 a4 a5 a6 a7 a8 k, LeO (syzygylaw05_RatioOrder.f k a0 a1 a2 a3 a4 a5 a6 a7 a8) (syzygylaw05_RatioOrder.f (k + 1) a0 a1 a2 a3 a4 a5 a6 a7 a8) := by
 intro a0 a1 a2 a3 a4 a5 a6 a7 a8 k
 unfold syzygylaw05_RatioOrder.f
 repeat' first
   | (with_reducible exact vO.mono _ _ _ _ _ _ _)
   | (with_reducible exact vN.mono _ _ _ _ _ _ _)
   | (with_reducible exact vK.mono _ _ _ _ _ _ _)
   | (with_reducible exact vP.mono _ _ _ _)
   | (with_reducible exact zD.mono _)
   | (with_reducible exact vB.mono _ _ _ _ _ _ _)
   | (with_reducible exact LeO.refl _)
   | (with_reducible exact LeO.none _)
   | (with_reducible refine LeO.ite ?_ ?_)
   | (with_reducible refine LeO.bind ?_ (fun _ => ?_))
theorem syzygylaw05_RatioOrder.calls (k : Nat) (a0_0 : Bool) (a0_1 : Bool) (a0_2 : Bool) (a0_3 : Int) (a0_4 : Int) (a0_5 : Int) (a0_6 : Int) (a0_7 : Int) (a0_8 : Int) (w : World) (h : syzygylaw05_RatioOrder.f k a0_0 a0_1 a0_2 a0_3 a0_4 a0_5 a0_6 a0_7 a0_8 = some true) :
  Calls Try.prog 11 #[.agg #[.bool a0_0, .bool a0_1, .bool a0_2, .int .u32 a0_3, .int .u32 a0_4, .int .u32 a0_5, .int .u32 a0_6, .int .u32 a0_7, .int .u32 a0_8]] w fun e w' => e = .returned (.bool true) ∧ Below w.heap.size w w' := by
 have hu71 := Try.underlying71
 have hu44 := Try.underlying44
 have HB := jA.mk (Below.refl w.heap.size w)
 have H : ((vP.f k a0_0 a0_3 a0_6).bind fun bt653 => ((vP.f k a0_1 a0_4 a0_7).bind fun bt661 => ((vP.f k a0_2 a0_5 a0_8).bind fun bt669 => ((vO.f k bt653.1 bt653.2.1 bt653.2.2 bt669.1 bt669.2.1 bt669.2.2).bind fun bt677 => ((vO.f k bt661.1 bt661.2.1 bt661.2.2 bt669.1 bt669.2.1 bt669.2.2).bind fun bt686 => ((vK.f k bt653.1 bt653.2.1 bt653.2.2 bt669.1 bt669.2.1 bt669.2.2).bind fun bt695 => ((vK.f k bt661.1 bt661.2.1 bt661.2.2 bt669.1 bt669.2.1 bt669.2.2).bind fun bt704 => ((vN.f k bt653.1 bt653.2.1 bt653.2.2 bt661.1 bt661.2.1 bt661.2.2).bind fun t713 => ((zY.f 0).bind fun bt714 => ((vN.f k bt669.1 bt669.2.1 bt669.2.2 bt714.1 bt714.2.1 bt714.2.2).bind fun t721 => (if bt677.2.2.2 = 0 then (if bt686.2.2.2 = 0 then (if bt695.2.2.2 = 0 then (if bt704.2.2.2 = 0 then ((vN.f k bt661.1 bt661.2.1 bt661.2.2 bt653.1 bt653.2.1 bt653.2.2).bind fun t722 => (if t713 = (wrap64 (-t722)) then ((vB.f k bt653.1 bt653.2.1 bt653.2.2 bt661.1 bt661.2.1 bt661.2.2).bind fun t723 => (if ((t713 == 0) == t723) = true then ((vN.f k bt677.1 bt677.2.1 bt677.2.2.1 bt686.1 bt686.2.1 bt686.2.2.1).bind fun t724 => (if t724 = t713 then ((vN.f k bt695.1 bt695.2.1 bt695.2.2.1 bt704.1 bt704.2.1 bt704.2.2.1).bind fun t725 => (if t725 = (wrap64 (t713 * t721)) then ((zD.f k).bind fun t726 => (some t726)) else (some false))) else (some false))) else (some false))) else (some false))) else (some false)) else (some false)) else (some false)) else (some false)))))))))))) = some true := h
 clear h
 replace H := ob_ H
 obtain ⟨⟨t653, t654, t657⟩, A20, H⟩ := H
 try dsimp only at H
 have A2 := jA.mk A20
 clear A20
 replace H := ob_ H
 obtain ⟨⟨t661, t662, t665⟩, A30, H⟩ := H
 try dsimp only at H
 have A3 := jA.mk A30
 clear A30
 replace H := ob_ H
 obtain ⟨⟨t669, t670, t673⟩, A40, H⟩ := H
 try dsimp only at H
 have A4 := jA.mk A40
 clear A40
 replace H := ob_ H
 obtain ⟨⟨t677, t678, t681, t684⟩, A50, H⟩ := H
 try dsimp only at H
 have A5 := jA.mk A50
 clear A50
 replace H := ob_ H
 obtain ⟨⟨t686, t687, t690, t693⟩, A60, H⟩ := H
 try dsimp only at H
 have A6 := jA.mk A60
 clear A60
 replace H := ob_ H
 obtain ⟨⟨t695, t696, t699, t702⟩, A70, H⟩ := H
 try dsimp only at H
 have A7 := jA.mk A70
 clear A70
 replace H := ob_ H
 obtain ⟨⟨t704, t705, t708, t711⟩, A80, H⟩ := H
 try dsimp only at H
 have A8 := jA.mk A80
 clear A80
 replace H := ob_ H
 obtain ⟨t713, A90, H⟩ := H
 try dsimp only at H
 have A9 := jA.mk A90
 clear A90
 replace H := ob_ H
 obtain ⟨⟨t714, t715, t718⟩, A100, H⟩ := H
 try dsimp only at H
 have A10 := jA.mk A100
 clear A100
 replace H := ob_ H
 obtain ⟨t721, A110, H⟩ := H
 try dsimp only at H
 have A11 := jA.mk A110
 clear A110
 by_cases c12 : t684 = 0
 ·
  rw [if_pos c12] at H
  have c12b0 := beq_iff_eq.mpr c12
  have c12b1 := bne_eq_false_iff_eq.mpr c12
  clear c12
  by_cases c13 : t693 = 0
  ·
   rw [if_pos c13] at H
   have c13b0 := beq_iff_eq.mpr c13
   have c13b1 := bne_eq_false_iff_eq.mpr c13
   clear c13
   by_cases c14 : t702 = 0
   ·
    rw [if_pos c14] at H
    have c14b0 := beq_iff_eq.mpr c14
    have c14b1 := bne_eq_false_iff_eq.mpr c14
    clear c14
    by_cases c15 : t711 = 0
    ·
     rw [if_pos c15] at H
     have c15b0 := beq_iff_eq.mpr c15
     have c15b1 := bne_eq_false_iff_eq.mpr c15
     clear c15
     replace H := ob_ H
     obtain ⟨t722, A160, H⟩ := H
     try dsimp only at H
     have A16 := jA.mk A160
     clear A160
     by_cases c17 : t713 = (wrap64 (-t722))
     ·
      rw [if_pos c17] at H
      have c17b0 := beq_iff_eq.mpr c17
      have c17b1 := bne_eq_false_iff_eq.mpr c17
      clear c17
      replace H := ob_ H
      obtain ⟨t723, A180, H⟩ := H
      try dsimp only at H
      have A18 := jA.mk A180
      clear A180
      by_cases c19 : ((t713 == 0) == t723) = true
      ·
       rw [if_pos c19] at H
       have c19b0 : ((t713 == 0) == t723) = true := c19
       (try (have c19b1 : decide ((t713 == 0) = t723) = true := by simpa using c19))
       (try (have c19b2 : ((t713 == 0) == t723) = true := by simpa using c19))
       clear c19
       replace H := ob_ H
       obtain ⟨t724, A200, H⟩ := H
       try dsimp only at H
       have A20 := jA.mk A200
       clear A200
       by_cases c21 : t724 = t713
       ·
        rw [if_pos c21] at H
        have c21b0 := beq_iff_eq.mpr c21
        have c21b1 := bne_eq_false_iff_eq.mpr c21
        clear c21
        replace H := ob_ H
        obtain ⟨t725, A220, H⟩ := H
        try dsimp only at H
        have A22 := jA.mk A220
        clear A220
        by_cases c23 : t725 = (wrap64 (t713 * t721))
        ·
         rw [if_pos c23] at H
         have c23b0 := beq_iff_eq.mpr c23
         have c23b1 := bne_eq_false_iff_eq.mpr c23
         clear c23
         replace H := ob_ H
         obtain ⟨t726, A240, H⟩ := H
         try dsimp only at H
         have A24 := jA.mk A240
         clear A240
         have HRT_ := jA.mk (Option.some.inj H)
         clear H
         go_enter Try.func11, Try.ntmps11
         try go_wp2_with (first | ((with_reducible refine je (N := 1) rfl ?_); refine vQ ?hg (N := 1) ?hd (cs := #[.bool a0_0, .bool a0_1, .bool a0_2, .int .u32 a0_3, .int .u32 a0_4, .int .u32 a0_5, .int .u32 a0_6, .int .u32 a0_7, .int .u32 a0_8]) (t := 71) ?hr ?_; (case hd => rfl); (case hg => rfl); (case hr => exact gs_); intro gb652 hg w25 hbox hb; have BK652 := jA.mk (hbox); have GW652 := jA.mk ((by rw [hg]; exact (jB (bb_ HB)) : w.heap.size ≤ gb652)); have GE652 := jA.mk ((by rw [hg]; exact (jB (bb_ HB)) : w.heap.size ≤ gb652)); replace HB := bs_ HB hb; clear hb hbox hg; obtain ⟨hcz26_0, hcz26_1, hcz26_2, hcz26_3, hcz26_4, hcz26_5, hcz26_6, hcz26_7, hcz26_8, hfz26_0, hfz26_1, hfz26_2, hfz26_3, hfz26_4, hfz26_5, hfz26_6, hfz26_7, hfz26_8⟩ := bf9_ BK652) | ((with_reducible refine jE (f := 41) rfl ?_); refine jh (some 25) rfl rfl Try.func41 kr_ rfl #[.bool a0_0, .int .u32 a0_3, .int .u32 a0_6] rfl mt_ ?_; (with_reducible refine (vP.calls k a0_0 a0_3 a0_6 t653 t654 t657 _ A2.out).mono ?_); rintro e w27 ⟨v655, v658, rfl, ho0, ho1, hb⟩; refine ⟨_, rfl, ?_⟩; have HO656 := jA.mk (Kd.jM ho0 (jB (bb1_ HB GE652))); have HO659 := jA.mk (Kd.jM ho1 (jB (bb1_ HB GE652))); replace BK652 := bk_ BK652 hb; replace HB := jA.mk (jK (bb1_ HB GE652) hb)) | ((with_reducible refine je (N := 3) rfl ?_); refine vQ ?hg (N := 3) ?hd (cs := #[.bool false, .slice none 0 0, .slice none 0 0]) (t := 44) ?hr ?_; (case hd => rfl); (case hg => rfl); (case hr => exact gs_); intro gb660 hg w28 hbox hb; replace HO656 := ro_ HO656 hb; replace HO659 := ro_ HO659 hb; have BK660 := jA.mk (hbox); have GW660 := jA.mk ((by rw [hg]; exact (jB (bb1_ HB GE652)) : w.heap.size ≤ gb660)); have GE660 := jA.mk ((by rw [hg]; exact (jB (bb1_ HB GE652)) : w.heap.size ≤ gb660)); replace HB := jA.mk (jK (bb1_ HB GE652) hb); have NB652_660 := jA.mk ((by rw [hg]; exact Nat.ne_of_lt (vI (g := gb652) (o := .cells #[.bool a0_0, .bool a0_1, .bool a0_2, .int .u32 a0_3, .int .u32 a0_4, .int .u32 a0_5, .int .u32 a0_6, .int .u32 a0_7, .int .u32 a0_8] 71 (0, 0)) (kb_ BK652)) : gb652 ≠ gb660)); have NB660_652 := jA.mk ((by rw [hg]; exact Nat.ne_of_gt (vI (g := gb652) (o := .cells #[.bool a0_0, .bool a0_1, .bool a0_2, .int .u32 a0_3, .int .u32 a0_4, .int .u32 a0_5, .int .u32 a0_6, .int .u32 a0_7, .int .u32 a0_8] 71 (0, 0)) (kb_ BK652)) : gb660 ≠ gb652)); replace BK652 := bk_ BK652 hb; clear hb hbox hg; have hnb29 := NB660_652.out; have hnc29 := NB652_660.out; obtain ⟨hcz30_0, hcz30_1, hcz30_2, hfz30_0, hfz30_1, hfz30_2⟩ := bf3_ BK660; obtain ⟨Ao31, co31, eo31⟩ := Kd.jW HO656.out; subst eo31; obtain ⟨Ao32, co32, eo32⟩ := Kd.jW HO659.out; subst eo32; obtain ⟨hcz33_0, hcz33_1, hcz33_2, hcz33_3, hcz33_4, hcz33_5, hcz33_6, hcz33_7, hcz33_8, hfz33_0, hfz33_1, hfz33_2, hfz33_3, hfz33_4, hfz33_5, hfz33_6, hfz33_7, hfz33_8⟩ := bf9_ BK652) | ((with_reducible refine jE (f := 41) rfl ?_); refine jh (some 35) rfl rfl Try.func41 kr_ rfl #[.bool a0_1, .int .u32 a0_4, .int .u32 a0_7] rfl mt_ ?_; (with_reducible refine (vP.calls k a0_1 a0_4 a0_7 t661 t662 t665 _ A3.out).mono ?_); rintro e w34 ⟨v663, v666, rfl, ho0, ho1, hb⟩; refine ⟨_, rfl, ?_⟩; have HO664 := jA.mk (Kd.jM (Kd.jH (Kd.jH ho0 (Kd.R_lt (rg3_ HO656 BK660))) (Kd.R_lt (rg3_ HO659 BK660))) (jB (bb2_ HB GE652 GE660))); have HO667 := jA.mk (Kd.jM (Kd.jH (Kd.jH ho1 (Kd.R_lt (rg3_ HO656 BK660))) (Kd.R_lt (rg3_ HO659 BK660))) (jB (bb2_ HB GE652 GE660))); replace HO656 := jA.mk (Kd.jN (Kd.jd (Kd.jd (Kd.zU (rg3_ HO656 BK660) hb) (Kd.jU ho0)) (Kd.jU ho1)) (fun _ h_ => h_.1)); replace HO659 := jA.mk (Kd.jN (Kd.jd (Kd.jd (Kd.zU (rg3_ HO659 BK660) hb) (Kd.jU ho0)) (Kd.jU ho1)) (fun _ h_ => h_.1)); replace BK652 := jA.mk (jq (g := gb652) (o := .cells #[.bool a0_0, .bool a0_1, .bool a0_2, .int .u32 a0_3, .int .u32 a0_4, .int .u32 a0_5, .int .u32 a0_6, .int .u32 a0_7, .int .u32 a0_8] 71 (0, 0)) (by refine pk_ ?_; refine jm ?_ NB652_660.out _; refine pk_ ?_; refine jm ?_ NB652_660.out _; refine pk_ ?_; refine jm ?_ NB652_660.out _; refine pk_ ?_; exact BK652.out) hb); replace BK660 := jA.mk (jq (g := gb660) (o := .cells #[.bool t653, .slice Ao31 t654.length co31, .slice Ao32 t657.length co32] 44 (0, 0)) (by refine pk_ ?_; refine jv (cs := #[.bool t653, .slice Ao31 t654.length co31, .slice none 0 0]) ?_ 2 _ rs_; refine pk_ ?_; refine jv (cs := #[.bool t653, .slice none 0 0, .slice none 0 0]) ?_ 1 _ rs_; refine pk_ ?_; refine jv (cs := #[.bool false, .slice none 0 0, .slice none 0 0]) ?_ 0 _ rs_; refine pk_ ?_; exact BK660.out) hb); replace HB := jA.mk (jK (bb2_ HB GE652 GE660) hb)) | ((with_reducible refine je (N := 4) rfl ?_); refine vQ ?hg (N := 4) ?hd (cs := #[.bool false, .slice none 0 0, .slice none 0 0]) (t := 44) ?hr ?_; (case hd => rfl); (case hg => rfl); (case hr => exact gs_); intro gb668 hg w35 hbox hb; replace HO656 := ro_ HO656 hb; replace HO659 := ro_ HO659 hb; replace HO664 := ro_ HO664 hb; replace HO667 := ro_ HO667 hb; have BK668 := jA.mk (hbox); have GW668 := jA.mk ((by rw [hg]; exact (jB (bb2_ HB GE652 GE660)) : w.heap.size ≤ gb668)); have GE668 := jA.mk ((by rw [hg]; exact (jB (bb2_ HB GE652 GE660)) : w.heap.size ≤ gb668)); replace HB := jA.mk (jK (bb2_ HB GE652 GE660) hb); have NB652_668 := jA.mk ((by rw [hg]; exact Nat.ne_of_lt (vI (g := gb652) (o := .cells #[.bool a0_0, .bool a0_1, .bool a0_2, .int .u32 a0_3, .int .u32 a0_4, .int .u32 a0_5, .int .u32 a0_6, .int .u32 a0_7, .int .u32 a0_8] 71 (0, 0)) (kb_ BK652)) : gb652 ≠ gb668)); have NB668_652 := jA.mk ((by rw [hg]; exact Nat.ne_of_gt (vI (g := gb652) (o := .cells #[.bool a0_0, .bool a0_1, .bool a0_2, .int .u32 a0_3, .int .u32 a0_4, .int .u32 a0_5, .int .u32 a0_6, .int .u32 a0_7, .int .u32 a0_8] 71 (0, 0)) (kb_ BK652)) : gb668 ≠ gb652)); replace BK652 := bk_ BK652 hb; have NB660_668 := jA.mk ((by rw [hg]; exact Nat.ne_of_lt (vI (g := gb660) (o := .cells #[.bool t653, .slice Ao31 t654.length co31, .slice Ao32 t657.length co32] 44 (0, 0)) (kb_ BK660)) : gb660 ≠ gb668)); have NB668_660 := jA.mk ((by rw [hg]; exact Nat.ne_of_gt (vI (g := gb660) (o := .cells #[.bool t653, .slice Ao31 t654.length co31, .slice Ao32 t657.length co32] 44 (0, 0)) (kb_ BK660)) : gb668 ≠ gb660)); replace BK660 := bk_ BK660 hb; clear hb hbox hg; have hnb36 := NB668_652.out; have hnc36 := NB652_668.out; have hnb37 := NB668_660.out; have hnc37 := NB660_668.out; obtain ⟨hcz38_0, hcz38_1, hcz38_2, hfz38_0, hfz38_1, hfz38_2⟩ := bf3_ BK668; obtain ⟨Ao39, co39, eo39⟩ := Kd.jW HO664.out; subst eo39; obtain ⟨Ao40, co40, eo40⟩ := Kd.jW HO667.out; subst eo40; obtain ⟨hcz41_0, hcz41_1, hcz41_2, hcz41_3, hcz41_4, hcz41_5, hcz41_6, hcz41_7, hcz41_8, hfz41_0, hfz41_1, hfz41_2, hfz41_3, hfz41_4, hfz41_5, hfz41_6, hfz41_7, hfz41_8⟩ := bf9_ BK652) | ((with_reducible refine jE (f := 41) rfl ?_); refine jh (some 45) rfl rfl Try.func41 kr_ rfl #[.bool a0_2, .int .u32 a0_5, .int .u32 a0_8] rfl mt_ ?_; (with_reducible refine (vP.calls k a0_2 a0_5 a0_8 t669 t670 t673 _ A4.out).mono ?_); rintro e w42 ⟨v671, v674, rfl, ho0, ho1, hb⟩; refine ⟨_, rfl, ?_⟩; have HO672 := jA.mk (Kd.jM (Kd.jH (Kd.jH (Kd.jH (Kd.jH ho0 (Kd.R_lt (rg3_ HO656 BK668))) (Kd.R_lt (rg3_ HO659 BK668))) (Kd.R_lt (rg3_ HO664 BK668))) (Kd.R_lt (rg3_ HO667 BK668))) (jB (bb3_ HB GE652 GE660 GE668))); have HO675 := jA.mk (Kd.jM (Kd.jH (Kd.jH (Kd.jH (Kd.jH ho1 (Kd.R_lt (rg3_ HO656 BK668))) (Kd.R_lt (rg3_ HO659 BK668))) (Kd.R_lt (rg3_ HO664 BK668))) (Kd.R_lt (rg3_ HO667 BK668))) (jB (bb3_ HB GE652 GE660 GE668))); replace HO656 := jA.mk (Kd.jN (Kd.jd (Kd.jd (Kd.zU (rg3_ HO656 BK668) hb) (Kd.jU ho0)) (Kd.jU ho1)) (fun _ h_ => h_.1)); replace HO659 := jA.mk (Kd.jN (Kd.jd (Kd.jd (Kd.zU (rg3_ HO659 BK668) hb) (Kd.jU ho0)) (Kd.jU ho1)) (fun _ h_ => h_.1)); replace HO664 := jA.mk (Kd.jN (Kd.jd (Kd.jd (Kd.zU (rg3_ HO664 BK668) hb) (Kd.jU ho0)) (Kd.jU ho1)) (fun _ h_ => h_.1)); replace HO667 := jA.mk (Kd.jN (Kd.jd (Kd.jd (Kd.zU (rg3_ HO667 BK668) hb) (Kd.jU ho0)) (Kd.jU ho1)) (fun _ h_ => h_.1)); replace BK652 := jA.mk (jq (g := gb652) (o := .cells #[.bool a0_0, .bool a0_1, .bool a0_2, .int .u32 a0_3, .int .u32 a0_4, .int .u32 a0_5, .int .u32 a0_6, .int .u32 a0_7, .int .u32 a0_8] 71 (0, 0)) (by refine pk_ ?_; refine jm ?_ NB652_668.out _; refine pk_ ?_; refine jm ?_ NB652_668.out _; refine pk_ ?_; refine jm ?_ NB652_668.out _; refine pk_ ?_; exact BK652.out) hb); replace BK660 := jA.mk (jq (g := gb660) (o := .cells #[.bool t653, .slice Ao31 t654.length co31, .slice Ao32 t657.length co32] 44 (0, 0)) (by refine pk_ ?_; refine jm ?_ NB660_668.out _; refine pk_ ?_; refine jm ?_ NB660_668.out _; refine pk_ ?_; refine jm ?_ NB660_668.out _; refine pk_ ?_; exact BK660.out) hb); replace BK668 := jA.mk (jq (g := gb668) (o := .cells #[.bool t661, .slice Ao39 t662.length co39, .slice Ao40 t665.length co40] 44 (0, 0)) (by refine pk_ ?_; refine jv (cs := #[.bool t661, .slice Ao39 t662.length co39, .slice none 0 0]) ?_ 2 _ rs_; refine pk_ ?_; refine jv (cs := #[.bool t661, .slice none 0 0, .slice none 0 0]) ?_ 1 _ rs_; refine pk_ ?_; refine jv (cs := #[.bool false, .slice none 0 0, .slice none 0 0]) ?_ 0 _ rs_; refine pk_ ?_; exact BK668.out) hb); replace HB := jA.mk (jK (bb3_ HB GE652 GE660 GE668) hb)) | ((with_reducible refine je (N := 5) rfl ?_); refine vQ ?hg (N := 5) ?hd (cs := #[.bool false, .slice none 0 0, .slice none 0 0]) (t := 44) ?hr ?_; (case hd => rfl); (case hg => rfl); (case hr => exact gs_); intro gb676 hg w43 hbox hb; replace HO656 := ro_ HO656 hb; replace HO659 := ro_ HO659 hb; replace HO664 := ro_ HO664 hb; replace HO667 := ro_ HO667 hb; replace HO672 := ro_ HO672 hb; replace HO675 := ro_ HO675 hb; have BK676 := jA.mk (hbox); have GW676 := jA.mk ((by rw [hg]; exact (jB (bb3_ HB GE652 GE660 GE668)) : w.heap.size ≤ gb676)); have GE676 := jA.mk ((by rw [hg]; exact (jB (bb3_ HB GE652 GE660 GE668)) : w.heap.size ≤ gb676)); replace HB := jA.mk (jK (bb3_ HB GE652 GE660 GE668) hb); have NB652_676 := jA.mk ((by rw [hg]; exact Nat.ne_of_lt (vI (g := gb652) (o := .cells #[.bool a0_0, .bool a0_1, .bool a0_2, .int .u32 a0_3, .int .u32 a0_4, .int .u32 a0_5, .int .u32 a0_6, .int .u32 a0_7, .int .u32 a0_8] 71 (0, 0)) (kb_ BK652)) : gb652 ≠ gb676)); have NB676_652 := jA.mk ((by rw [hg]; exact Nat.ne_of_gt (vI (g := gb652) (o := .cells #[.bool a0_0, .bool a0_1, .bool a0_2, .int .u32 a0_3, .int .u32 a0_4, .int .u32 a0_5, .int .u32 a0_6, .int .u32 a0_7, .int .u32 a0_8] 71 (0, 0)) (kb_ BK652)) : gb676 ≠ gb652)); replace BK652 := bk_ BK652 hb; have NB660_676 := jA.mk ((by rw [hg]; exact Nat.ne_of_lt (vI (g := gb660) (o := .cells #[.bool t653, .slice Ao31 t654.length co31, .slice Ao32 t657.length co32] 44 (0, 0)) (kb_ BK660)) : gb660 ≠ gb676)); have NB676_660 := jA.mk ((by rw [hg]; exact Nat.ne_of_gt (vI (g := gb660) (o := .cells #[.bool t653, .slice Ao31 t654.length co31, .slice Ao32 t657.length co32] 44 (0, 0)) (kb_ BK660)) : gb676 ≠ gb660)); replace BK660 := bk_ BK660 hb; have NB668_676 := jA.mk ((by rw [hg]; exact Nat.ne_of_lt (vI (g := gb668) (o := .cells #[.bool t661, .slice Ao39 t662.length co39, .slice Ao40 t665.length co40] 44 (0, 0)) (kb_ BK668)) : gb668 ≠ gb676)); have NB676_668 := jA.mk ((by rw [hg]; exact Nat.ne_of_gt (vI (g := gb668) (o := .cells #[.bool t661, .slice Ao39 t662.length co39, .slice Ao40 t665.length co40] 44 (0, 0)) (kb_ BK668)) : gb676 ≠ gb668)); replace BK668 := bk_ BK668 hb; clear hb hbox hg; have hnb44 := NB676_652.out; have hnc44 := NB652_676.out; have hnb45 := NB676_660.out; have hnc45 := NB660_676.out; have hnb46 := NB676_668.out; have hnc46 := NB668_676.out; obtain ⟨hcz47_0, hcz47_1, hcz47_2, hfz47_0, hfz47_1, hfz47_2⟩ := bf3_ BK676; obtain ⟨Ao48, co48, eo48⟩ := Kd.jW HO672.out; subst eo48; obtain ⟨Ao49, co49, eo49⟩ := Kd.jW HO675.out; subst eo49; obtain ⟨hcz50_0, hcz50_1, hcz50_2, hfz50_0, hfz50_1, hfz50_2⟩ := bf3_ BK660) | ((with_reducible refine jE (f := 49) rfl ?_); refine jh (some 49) rfl rfl Try.func49 kr_ rfl #[.agg #[.bool t653, .slice Ao31 t654.length co31, .slice Ao32 t657.length co32], .agg #[.bool t669, .slice Ao48 t670.length co48, .slice Ao49 t673.length co49]] rfl mt_ ?_; (with_reducible refine (vO.calls k t653 _ _ t654 _ _ t657 t669 _ _ t670 _ _ t673 t677 t678 t681 t684 _ ?side1 ?side2 ?side3 ?side4 ?side5 ?side6 ?side7 ?side8 A5.out).mono ?_); (case side1 => refine (Kd.jC (e := 22) (base := w.heap.size) (ok := fun k_ => ((((some k_ ≠ (.slice Ao32 t657.length co32 : Value).ownBlock ∧ some k_ ≠ (.slice Ao39 t662.length co39 : Value).ownBlock) ∧ some k_ ≠ (.slice Ao40 t665.length co40 : Value).ownBlock) ∧ some k_ ≠ (.slice Ao48 t670.length co48 : Value).ownBlock) ∧ some k_ ≠ (.slice Ao49 t673.length co49 : Value).ownBlock)) (n := t654.length) (c := co31) ?_).2.2; exact (rg3_ HO656 BK676)); (case side2 => exact (Kd.jC HO656.out).2.1); (case side3 => refine (Kd.jC (e := 22) (base := w.heap.size) (ok := fun k_ => ((((some k_ ≠ (.slice Ao31 t654.length co31 : Value).ownBlock ∧ some k_ ≠ (.slice Ao39 t662.length co39 : Value).ownBlock) ∧ some k_ ≠ (.slice Ao40 t665.length co40 : Value).ownBlock) ∧ some k_ ≠ (.slice Ao48 t670.length co48 : Value).ownBlock) ∧ some k_ ≠ (.slice Ao49 t673.length co49 : Value).ownBlock)) (n := t657.length) (c := co32) ?_).2.2; exact (rg3_ HO659 BK676)); (case side4 => exact (Kd.jC HO659.out).2.1); (case side5 => refine (Kd.jC (e := 22) (base := w.heap.size) (ok := fun k_ => ((((some k_ ≠ (.slice Ao49 t673.length co49 : Value).ownBlock ∧ some k_ ≠ (.slice Ao31 t654.length co31 : Value).ownBlock) ∧ some k_ ≠ (.slice Ao32 t657.length co32 : Value).ownBlock) ∧ some k_ ≠ (.slice Ao39 t662.length co39 : Value).ownBlock) ∧ some k_ ≠ (.slice Ao40 t665.length co40 : Value).ownBlock)) (n := t670.length) (c := co48) ?_).2.2; exact (rg3_ HO672 BK676)); (case side6 => exact (Kd.jC HO672.out).2.1); (case side7 => refine (Kd.jC (e := 22) (base := w.heap.size) (ok := fun k_ => ((((some k_ ≠ (.slice Ao48 t670.length co48 : Value).ownBlock ∧ some k_ ≠ (.slice Ao31 t654.length co31 : Value).ownBlock) ∧ some k_ ≠ (.slice Ao32 t657.length co32 : Value).ownBlock) ∧ some k_ ≠ (.slice Ao39 t662.length co39 : Value).ownBlock) ∧ some k_ ≠ (.slice Ao40 t665.length co40 : Value).ownBlock)) (n := t673.length) (c := co49) ?_).2.2; exact (rg3_ HO675 BK676)); (case side8 => exact (Kd.jC HO675.out).2.1); rintro e w51 ⟨v679, v682, rfl, ho0, ho1, hb⟩; refine ⟨_, rfl, ?_⟩; have HO680 := jA.mk (Kd.jM (Kd.jH (Kd.jH (Kd.jH (Kd.jH (Kd.jH (Kd.jH ho0 (Kd.R_lt (rg3_ HO656 BK676))) (Kd.R_lt (rg3_ HO659 BK676))) (Kd.R_lt (rg3_ HO664 BK676))) (Kd.R_lt (rg3_ HO667 BK676))) (Kd.R_lt (rg3_ HO672 BK676))) (Kd.R_lt (rg3_ HO675 BK676))) (jB (bb4_ HB GE652 GE660 GE668 GE676))); have HO683 := jA.mk (Kd.jM (Kd.jH (Kd.jH (Kd.jH (Kd.jH (Kd.jH (Kd.jH ho1 (Kd.R_lt (rg3_ HO656 BK676))) (Kd.R_lt (rg3_ HO659 BK676))) (Kd.R_lt (rg3_ HO664 BK676))) (Kd.R_lt (rg3_ HO667 BK676))) (Kd.R_lt (rg3_ HO672 BK676))) (Kd.R_lt (rg3_ HO675 BK676))) (jB (bb4_ HB GE652 GE660 GE668 GE676))); replace HO656 := jA.mk (Kd.jN (Kd.jd (Kd.jd (Kd.zU (rg3_ HO656 BK676) hb) (Kd.jU ho0)) (Kd.jU ho1)) (fun _ h_ => h_.1)); replace HO659 := jA.mk (Kd.jN (Kd.jd (Kd.jd (Kd.zU (rg3_ HO659 BK676) hb) (Kd.jU ho0)) (Kd.jU ho1)) (fun _ h_ => h_.1)); replace HO664 := jA.mk (Kd.jN (Kd.jd (Kd.jd (Kd.zU (rg3_ HO664 BK676) hb) (Kd.jU ho0)) (Kd.jU ho1)) (fun _ h_ => h_.1)); replace HO667 := jA.mk (Kd.jN (Kd.jd (Kd.jd (Kd.zU (rg3_ HO667 BK676) hb) (Kd.jU ho0)) (Kd.jU ho1)) (fun _ h_ => h_.1)); replace HO672 := jA.mk (Kd.jN (Kd.jd (Kd.jd (Kd.zU (rg3_ HO672 BK676) hb) (Kd.jU ho0)) (Kd.jU ho1)) (fun _ h_ => h_.1)); replace HO675 := jA.mk (Kd.jN (Kd.jd (Kd.jd (Kd.zU (rg3_ HO675 BK676) hb) (Kd.jU ho0)) (Kd.jU ho1)) (fun _ h_ => h_.1)); replace BK652 := jA.mk (jq (g := gb652) (o := .cells #[.bool a0_0, .bool a0_1, .bool a0_2, .int .u32 a0_3, .int .u32 a0_4, .int .u32 a0_5, .int .u32 a0_6, .int .u32 a0_7, .int .u32 a0_8] 71 (0, 0)) (by refine pk_ ?_; refine jm ?_ NB652_676.out _; refine pk_ ?_; refine jm ?_ NB652_676.out _; refine pk_ ?_; refine jm ?_ NB652_676.out _; refine pk_ ?_; exact BK652.out) hb); replace BK660 := jA.mk (jq (g := gb660) (o := .cells #[.bool t653, .slice Ao31 t654.length co31, .slice Ao32 t657.length co32] 44 (0, 0)) (by refine pk_ ?_; refine jm ?_ NB660_676.out _; refine pk_ ?_; refine jm ?_ NB660_676.out _; refine pk_ ?_; refine jm ?_ NB660_676.out _; refine pk_ ?_; exact BK660.out) hb); replace BK668 := jA.mk (jq (g := gb668) (o := .cells #[.bool t661, .slice Ao39 t662.length co39, .slice Ao40 t665.length co40] 44 (0, 0)) (by refine pk_ ?_; refine jm ?_ NB668_676.out _; refine pk_ ?_; refine jm ?_ NB668_676.out _; refine pk_ ?_; refine jm ?_ NB668_676.out _; refine pk_ ?_; exact BK668.out) hb); replace BK676 := jA.mk (jq (g := gb676) (o := .cells #[.bool t669, .slice Ao48 t670.length co48, .slice Ao49 t673.length co49] 44 (0, 0)) (by refine pk_ ?_; refine jv (cs := #[.bool t669, .slice Ao48 t670.length co48, .slice none 0 0]) ?_ 2 _ rs_; refine pk_ ?_; refine jv (cs := #[.bool t669, .slice none 0 0, .slice none 0 0]) ?_ 1 _ rs_; refine pk_ ?_; refine jv (cs := #[.bool false, .slice none 0 0, .slice none 0 0]) ?_ 0 _ rs_; refine pk_ ?_; exact BK676.out) hb); replace HB := jA.mk (jK (bb4_ HB GE652 GE660 GE668 GE676) hb)) | ((with_reducible refine je (N := 6) rfl ?_); refine vQ ?hg (N := 6) ?hd (cs := #[.bool false, .slice none 0 0, .slice none 0 0]) (t := 44) ?hr ?_; (case hd => rfl); (case hg => rfl); (case hr => exact gs_); intro gb685 hg w52 hbox hb; replace HO656 := ro_ HO656 hb; replace HO659 := ro_ HO659 hb; replace HO664 := ro_ HO664 hb; replace HO667 := ro_ HO667 hb; replace HO672 := ro_ HO672 hb; replace HO675 := ro_ HO675 hb; replace HO680 := ro_ HO680 hb; replace HO683 := ro_ HO683 hb; have BK685 := jA.mk (hbox); have GW685 := jA.mk ((by rw [hg]; exact (jB (bb4_ HB GE652 GE660 GE668 GE676)) : w.heap.size ≤ gb685)); have GE685 := jA.mk ((by rw [hg]; exact (jB (bb4_ HB GE652 GE660 GE668 GE676)) : w.heap.size ≤ gb685)); replace HB := jA.mk (jK (bb4_ HB GE652 GE660 GE668 GE676) hb); have NB652_685 := jA.mk ((by rw [hg]; exact Nat.ne_of_lt (vI (g := gb652) (o := .cells #[.bool a0_0, .bool a0_1, .bool a0_2, .int .u32 a0_3, .int .u32 a0_4, .int .u32 a0_5, .int .u32 a0_6, .int .u32 a0_7, .int .u32 a0_8] 71 (0, 0)) (kb_ BK652)) : gb652 ≠ gb685)); have NB685_652 := jA.mk ((by rw [hg]; exact Nat.ne_of_gt (vI (g := gb652) (o := .cells #[.bool a0_0, .bool a0_1, .bool a0_2, .int .u32 a0_3, .int .u32 a0_4, .int .u32 a0_5, .int .u32 a0_6, .int .u32 a0_7, .int .u32 a0_8] 71 (0, 0)) (kb_ BK652)) : gb685 ≠ gb652)); replace BK652 := bk_ BK652 hb; have NB660_685 := jA.mk ((by rw [hg]; exact Nat.ne_of_lt (vI (g := gb660) (o := .cells #[.bool t653, .slice Ao31 t654.length co31, .slice Ao32 t657.length co32] 44 (0, 0)) (kb_ BK660)) : gb660 ≠ gb685)); have NB685_660 := jA.mk ((by rw [hg]; exact Nat.ne_of_gt (vI (g := gb660) (o := .cells #[.bool t653, .slice Ao31 t654.length co31, .slice Ao32 t657.length co32] 44 (0, 0)) (kb_ BK660)) : gb685 ≠ gb660)); replace BK660 := bk_ BK660 hb; have NB668_685 := jA.mk ((by rw [hg]; exact Nat.ne_of_lt (vI (g := gb668) (o := .cells #[.bool t661, .slice Ao39 t662.length co39, .slice Ao40 t665.length co40] 44 (0, 0)) (kb_ BK668)) : gb668 ≠ gb685)); have NB685_668 := jA.mk ((by rw [hg]; exact Nat.ne_of_gt (vI (g := gb668) (o := .cells #[.bool t661, .slice Ao39 t662.length co39, .slice Ao40 t665.length co40] 44 (0, 0)) (kb_ BK668)) : gb685 ≠ gb668)); replace BK668 := bk_ BK668 hb; have NB676_685 := jA.mk ((by rw [hg]; exact Nat.ne_of_lt (vI (g := gb676) (o := .cells #[.bool t669, .slice Ao48 t670.length co48, .slice Ao49 t673.length co49] 44 (0, 0)) (kb_ BK676)) : gb676 ≠ gb685)); have NB685_676 := jA.mk ((by rw [hg]; exact Nat.ne_of_gt (vI (g := gb676) (o := .cells #[.bool t669, .slice Ao48 t670.length co48, .slice Ao49 t673.length co49] 44 (0, 0)) (kb_ BK676)) : gb685 ≠ gb676)); replace BK676 := bk_ BK676 hb; clear hb hbox hg; have hnb53 := NB685_652.out; have hnc53 := NB652_685.out; have hnb54 := NB685_660.out; have hnc54 := NB660_685.out; have hnb55 := NB685_668.out; have hnc55 := NB668_685.out; have hnb56 := NB685_676.out; have hnc56 := NB676_685.out; obtain ⟨hcz57_0, hcz57_1, hcz57_2, hfz57_0, hfz57_1, hfz57_2⟩ := bf3_ BK685; obtain ⟨Ao58, co58, eo58⟩ := Kd.jW HO680.out; subst eo58; obtain ⟨Ao59, co59, eo59⟩ := Kd.jW HO683.out; subst eo59; obtain ⟨hcz60_0, hcz60_1, hcz60_2, hfz60_0, hfz60_1, hfz60_2⟩ := bf3_ BK668; obtain ⟨hcz61_0, hcz61_1, hcz61_2, hfz61_0, hfz61_1, hfz61_2⟩ := bf3_ BK676) | ((with_reducible refine jE (f := 49) rfl ?_); refine jh (some 55) rfl rfl Try.func49 kr_ rfl #[.agg #[.bool t661, .slice Ao39 t662.length co39, .slice Ao40 t665.length co40], .agg #[.bool t669, .slice Ao48 t670.length co48, .slice Ao49 t673.length co49]] rfl mt_ ?_; (with_reducible refine (vO.calls k t661 _ _ t662 _ _ t665 t669 _ _ t670 _ _ t673 t686 t687 t690 t693 _ ?side1 ?side2 ?side3 ?side4 ?side5 ?side6 ?side7 ?side8 A6.out).mono ?_); (case side1 => refine (Kd.jC (e := 22) (base := w.heap.size) (ok := fun k_ => ((((((some k_ ≠ (.slice Ao40 t665.length co40 : Value).ownBlock ∧ some k_ ≠ (.slice Ao31 t654.length co31 : Value).ownBlock) ∧ some k_ ≠ (.slice Ao32 t657.length co32 : Value).ownBlock) ∧ some k_ ≠ (.slice Ao48 t670.length co48 : Value).ownBlock) ∧ some k_ ≠ (.slice Ao49 t673.length co49 : Value).ownBlock) ∧ some k_ ≠ (.slice Ao58 t678.length co58 : Value).ownBlock) ∧ some k_ ≠ (.slice Ao59 t681.length co59 : Value).ownBlock)) (n := t662.length) (c := co39) ?_).2.2; exact (rg3_ HO664 BK685)); (case side2 => exact (Kd.jC HO664.out).2.1); (case side3 => refine (Kd.jC (e := 22) (base := w.heap.size) (ok := fun k_ => ((((((some k_ ≠ (.slice Ao39 t662.length co39 : Value).ownBlock ∧ some k_ ≠ (.slice Ao31 t654.length co31 : Value).ownBlock) ∧ some k_ ≠ (.slice Ao32 t657.length co32 : Value).ownBlock) ∧ some k_ ≠ (.slice Ao48 t670.length co48 : Value).ownBlock) ∧ some k_ ≠ (.slice Ao49 t673.length co49 : Value).ownBlock) ∧ some k_ ≠ (.slice Ao58 t678.length co58 : Value).ownBlock) ∧ some k_ ≠ (.slice Ao59 t681.length co59 : Value).ownBlock)) (n := t665.length) (c := co40) ?_).2.2; exact (rg3_ HO667 BK685)); (case side4 => exact (Kd.jC HO667.out).2.1); (case side5 => refine (Kd.jC (e := 22) (base := w.heap.size) (ok := fun k_ => ((((((some k_ ≠ (.slice Ao49 t673.length co49 : Value).ownBlock ∧ some k_ ≠ (.slice Ao31 t654.length co31 : Value).ownBlock) ∧ some k_ ≠ (.slice Ao32 t657.length co32 : Value).ownBlock) ∧ some k_ ≠ (.slice Ao39 t662.length co39 : Value).ownBlock) ∧ some k_ ≠ (.slice Ao40 t665.length co40 : Value).ownBlock) ∧ some k_ ≠ (.slice Ao58 t678.length co58 : Value).ownBlock) ∧ some k_ ≠ (.slice Ao59 t681.length co59 : Value).ownBlock)) (n := t670.length) (c := co48) ?_).2.2; exact (rg3_ HO672 BK685)); (case side6 => exact (Kd.jC HO672.out).2.1); (case side7 => refine (Kd.jC (e := 22) (base := w.heap.size) (ok := fun k_ => ((((((some k_ ≠ (.slice Ao48 t670.length co48 : Value).ownBlock ∧ some k_ ≠ (.slice Ao31 t654.length co31 : Value).ownBlock) ∧ some k_ ≠ (.slice Ao32 t657.length co32 : Value).ownBlock) ∧ some k_ ≠ (.slice Ao39 t662.length co39 : Value).ownBlock) ∧ some k_ ≠ (.slice Ao40 t665.length co40 : Value).ownBlock) ∧ some k_ ≠ (.slice Ao58 t678.length co58 : Value).ownBlock) ∧ some k_ ≠ (.slice Ao59 t681.length co59 : Value).ownBlock)) (n := t673.length) (c := co49) ?_).2.2; exact (rg3_ HO675 BK685)); (case side8 => exact (Kd.jC HO675.out).2.1); rintro e w62 ⟨v688, v691, rfl, ho0, ho1, hb⟩; refine ⟨_, rfl, ?_⟩; have HO689 := jA.mk (Kd.jM (Kd.jH (Kd.jH (Kd.jH (Kd.jH (Kd.jH (Kd.jH (Kd.jH (Kd.jH ho0 (Kd.R_lt (rg3_ HO656 BK685))) (Kd.R_lt (rg3_ HO659 BK685))) (Kd.R_lt (rg3_ HO664 BK685))) (Kd.R_lt (rg3_ HO667 BK685))) (Kd.R_lt (rg3_ HO672 BK685))) (Kd.R_lt (rg3_ HO675 BK685))) (Kd.R_lt (rg3_ HO680 BK685))) (Kd.R_lt (rg3_ HO683 BK685))) (jB (bb5_ HB GE652 GE660 GE668 GE676 GE685))); have HO692 := jA.mk (Kd.jM (Kd.jH (Kd.jH (Kd.jH (Kd.jH (Kd.jH (Kd.jH (Kd.jH (Kd.jH ho1 (Kd.R_lt (rg3_ HO656 BK685))) (Kd.R_lt (rg3_ HO659 BK685))) (Kd.R_lt (rg3_ HO664 BK685))) (Kd.R_lt (rg3_ HO667 BK685))) (Kd.R_lt (rg3_ HO672 BK685))) (Kd.R_lt (rg3_ HO675 BK685))) (Kd.R_lt (rg3_ HO680 BK685))) (Kd.R_lt (rg3_ HO683 BK685))) (jB (bb5_ HB GE652 GE660 GE668 GE676 GE685))); replace HO656 := jA.mk (Kd.jN (Kd.jd (Kd.jd (Kd.zU (rg3_ HO656 BK685) hb) (Kd.jU ho0)) (Kd.jU ho1)) (fun _ h_ => h_.1)); replace HO659 := jA.mk (Kd.jN (Kd.jd (Kd.jd (Kd.zU (rg3_ HO659 BK685) hb) (Kd.jU ho0)) (Kd.jU ho1)) (fun _ h_ => h_.1)); replace HO664 := jA.mk (Kd.jN (Kd.jd (Kd.jd (Kd.zU (rg3_ HO664 BK685) hb) (Kd.jU ho0)) (Kd.jU ho1)) (fun _ h_ => h_.1)); replace HO667 := jA.mk (Kd.jN (Kd.jd (Kd.jd (Kd.zU (rg3_ HO667 BK685) hb) (Kd.jU ho0)) (Kd.jU ho1)) (fun _ h_ => h_.1)); replace HO672 := jA.mk (Kd.jN (Kd.jd (Kd.jd (Kd.zU (rg3_ HO672 BK685) hb) (Kd.jU ho0)) (Kd.jU ho1)) (fun _ h_ => h_.1)); replace HO675 := jA.mk (Kd.jN (Kd.jd (Kd.jd (Kd.zU (rg3_ HO675 BK685) hb) (Kd.jU ho0)) (Kd.jU ho1)) (fun _ h_ => h_.1)); replace HO680 := jA.mk (Kd.jN (Kd.jd (Kd.jd (Kd.zU (rg3_ HO680 BK685) hb) (Kd.jU ho0)) (Kd.jU ho1)) (fun _ h_ => h_.1)); replace HO683 := jA.mk (Kd.jN (Kd.jd (Kd.jd (Kd.zU (rg3_ HO683 BK685) hb) (Kd.jU ho0)) (Kd.jU ho1)) (fun _ h_ => h_.1)); replace BK652 := jA.mk (jq (g := gb652) (o := .cells #[.bool a0_0, .bool a0_1, .bool a0_2, .int .u32 a0_3, .int .u32 a0_4, .int .u32 a0_5, .int .u32 a0_6, .int .u32 a0_7, .int .u32 a0_8] 71 (0, 0)) (by refine pk_ ?_; refine jm ?_ NB652_685.out _; refine pk_ ?_; refine jm ?_ NB652_685.out _; refine pk_ ?_; refine jm ?_ NB652_685.out _; refine pk_ ?_; exact BK652.out) hb); replace BK660 := jA.mk (jq (g := gb660) (o := .cells #[.bool t653, .slice Ao31 t654.length co31, .slice Ao32 t657.length co32] 44 (0, 0)) (by refine pk_ ?_; refine jm ?_ NB660_685.out _; refine pk_ ?_; refine jm ?_ NB660_685.out _; refine pk_ ?_; refine jm ?_ NB660_685.out _; refine pk_ ?_; exact BK660.out) hb); replace BK668 := jA.mk (jq (g := gb668) (o := .cells #[.bool t661, .slice Ao39 t662.length co39, .slice Ao40 t665.length co40] 44 (0, 0)) (by refine pk_ ?_; refine jm ?_ NB668_685.out _; refine pk_ ?_; refine jm ?_ NB668_685.out _; refine pk_ ?_; refine jm ?_ NB668_685.out _; refine pk_ ?_; exact BK668.out) hb); replace BK676 := jA.mk (jq (g := gb676) (o := .cells #[.bool t669, .slice Ao48 t670.length co48, .slice Ao49 t673.length co49] 44 (0, 0)) (by refine pk_ ?_; refine jm ?_ NB676_685.out _; refine pk_ ?_; refine jm ?_ NB676_685.out _; refine pk_ ?_; refine jm ?_ NB676_685.out _; refine pk_ ?_; exact BK676.out) hb); replace BK685 := jA.mk (jq (g := gb685) (o := .cells #[.bool t677, .slice Ao58 t678.length co58, .slice Ao59 t681.length co59] 44 (0, 0)) (by refine pk_ ?_; refine jv (cs := #[.bool t677, .slice Ao58 t678.length co58, .slice none 0 0]) ?_ 2 _ rs_; refine pk_ ?_; refine jv (cs := #[.bool t677, .slice none 0 0, .slice none 0 0]) ?_ 1 _ rs_; refine pk_ ?_; refine jv (cs := #[.bool false, .slice none 0 0, .slice none 0 0]) ?_ 0 _ rs_; refine pk_ ?_; exact BK685.out) hb); replace HB := jA.mk (jK (bb5_ HB GE652 GE660 GE668 GE676 GE685) hb)) | ((with_reducible refine je (N := 8) rfl ?_); refine vQ ?hg (N := 8) ?hd (cs := #[.bool false, .slice none 0 0, .slice none 0 0]) (t := 44) ?hr ?_; (case hd => rfl); (case hg => rfl); (case hr => exact gs_); intro gb694 hg w63 hbox hb; replace HO656 := ro_ HO656 hb; replace HO659 := ro_ HO659 hb; replace HO664 := ro_ HO664 hb; replace HO667 := ro_ HO667 hb; replace HO672 := ro_ HO672 hb; replace HO675 := ro_ HO675 hb; replace HO680 := ro_ HO680 hb; replace HO683 := ro_ HO683 hb; replace HO689 := ro_ HO689 hb; replace HO692 := ro_ HO692 hb; have BK694 := jA.mk (hbox); have GW694 := jA.mk ((by rw [hg]; exact (jB (bb5_ HB GE652 GE660 GE668 GE676 GE685)) : w.heap.size ≤ gb694)); have GE694 := jA.mk ((by rw [hg]; exact (jB (bb5_ HB GE652 GE660 GE668 GE676 GE685)) : w.heap.size ≤ gb694)); replace HB := jA.mk (jK (bb5_ HB GE652 GE660 GE668 GE676 GE685) hb); have NB652_694 := jA.mk ((by rw [hg]; exact Nat.ne_of_lt (vI (g := gb652) (o := .cells #[.bool a0_0, .bool a0_1, .bool a0_2, .int .u32 a0_3, .int .u32 a0_4, .int .u32 a0_5, .int .u32 a0_6, .int .u32 a0_7, .int .u32 a0_8] 71 (0, 0)) (kb_ BK652)) : gb652 ≠ gb694)); have NB694_652 := jA.mk ((by rw [hg]; exact Nat.ne_of_gt (vI (g := gb652) (o := .cells #[.bool a0_0, .bool a0_1, .bool a0_2, .int .u32 a0_3, .int .u32 a0_4, .int .u32 a0_5, .int .u32 a0_6, .int .u32 a0_7, .int .u32 a0_8] 71 (0, 0)) (kb_ BK652)) : gb694 ≠ gb652)); replace BK652 := bk_ BK652 hb; have NB660_694 := jA.mk ((by rw [hg]; exact Nat.ne_of_lt (vI (g := gb660) (o := .cells #[.bool t653, .slice Ao31 t654.length co31, .slice Ao32 t657.length co32] 44 (0, 0)) (kb_ BK660)) : gb660 ≠ gb694)); have NB694_660 := jA.mk ((by rw [hg]; exact Nat.ne_of_gt (vI (g := gb660) (o := .cells #[.bool t653, .slice Ao31 t654.length co31, .slice Ao32 t657.length co32] 44 (0, 0)) (kb_ BK660)) : gb694 ≠ gb660)); replace BK660 := bk_ BK660 hb; have NB668_694 := jA.mk ((by rw [hg]; exact Nat.ne_of_lt (vI (g := gb668) (o := .cells #[.bool t661, .slice Ao39 t662.length co39, .slice Ao40 t665.length co40] 44 (0, 0)) (kb_ BK668)) : gb668 ≠ gb694)); have NB694_668 := jA.mk ((by rw [hg]; exact Nat.ne_of_gt (vI (g := gb668) (o := .cells #[.bool t661, .slice Ao39 t662.length co39, .slice Ao40 t665.length co40] 44 (0, 0)) (kb_ BK668)) : gb694 ≠ gb668)); replace BK668 := bk_ BK668 hb; have NB676_694 := jA.mk ((by rw [hg]; exact Nat.ne_of_lt (vI (g := gb676) (o := .cells #[.bool t669, .slice Ao48 t670.length co48, .slice Ao49 t673.length co49] 44 (0, 0)) (kb_ BK676)) : gb676 ≠ gb694)); have NB694_676 := jA.mk ((by rw [hg]; exact Nat.ne_of_gt (vI (g := gb676) (o := .cells #[.bool t669, .slice Ao48 t670.length co48, .slice Ao49 t673.length co49] 44 (0, 0)) (kb_ BK676)) : gb694 ≠ gb676)); replace BK676 := bk_ BK676 hb; have NB685_694 := jA.mk ((by rw [hg]; exact Nat.ne_of_lt (vI (g := gb685) (o := .cells #[.bool t677, .slice Ao58 t678.length co58, .slice Ao59 t681.length co59] 44 (0, 0)) (kb_ BK685)) : gb685 ≠ gb694)); have NB694_685 := jA.mk ((by rw [hg]; exact Nat.ne_of_gt (vI (g := gb685) (o := .cells #[.bool t677, .slice Ao58 t678.length co58, .slice Ao59 t681.length co59] 44 (0, 0)) (kb_ BK685)) : gb694 ≠ gb685)); replace BK685 := bk_ BK685 hb; clear hb hbox hg; have hnb64 := NB694_652.out; have hnc64 := NB652_694.out; have hnb65 := NB694_660.out; have hnc65 := NB660_694.out; have hnb66 := NB694_668.out; have hnc66 := NB668_694.out; have hnb67 := NB694_676.out; have hnc67 := NB676_694.out; have hnb68 := NB694_685.out; have hnc68 := NB685_694.out; obtain ⟨hcz69_0, hcz69_1, hcz69_2, hfz69_0, hfz69_1, hfz69_2⟩ := bf3_ BK694; obtain ⟨Ao70, co70, eo70⟩ := Kd.jW HO689.out; subst eo70; obtain ⟨Ao71, co71, eo71⟩ := Kd.jW HO692.out; subst eo71; obtain ⟨hcz72_0, hcz72_1, hcz72_2, hfz72_0, hfz72_1, hfz72_2⟩ := bf3_ BK660; obtain ⟨hcz73_0, hcz73_1, hcz73_2, hfz73_0, hfz73_1, hfz73_2⟩ := bf3_ BK676) | ((with_reducible refine jE (f := 51) rfl ?_); refine jh (some 61) rfl rfl Try.func51 kr_ rfl #[.agg #[.bool t653, .slice Ao31 t654.length co31, .slice Ao32 t657.length co32], .agg #[.bool t669, .slice Ao48 t670.length co48, .slice Ao49 t673.length co49]] rfl mt_ ?_; (with_reducible refine (vK.calls k t653 _ _ t654 _ _ t657 t669 _ _ t670 _ _ t673 t695 t696 t699 t702 _ ?side1 ?side2 ?side3 ?side4 ?side5 ?side6 ?side7 ?side8 A7.out).mono ?_); (case side1 => refine (Kd.jC (e := 22) (base := w.heap.size) (ok := fun k_ => ((((((((some k_ ≠ (.slice Ao32 t657.length co32 : Value).ownBlock ∧ some k_ ≠ (.slice Ao39 t662.length co39 : Value).ownBlock) ∧ some k_ ≠ (.slice Ao40 t665.length co40 : Value).ownBlock) ∧ some k_ ≠ (.slice Ao48 t670.length co48 : Value).ownBlock) ∧ some k_ ≠ (.slice Ao49 t673.length co49 : Value).ownBlock) ∧ some k_ ≠ (.slice Ao58 t678.length co58 : Value).ownBlock) ∧ some k_ ≠ (.slice Ao59 t681.length co59 : Value).ownBlock) ∧ some k_ ≠ (.slice Ao70 t687.length co70 : Value).ownBlock) ∧ some k_ ≠ (.slice Ao71 t690.length co71 : Value).ownBlock)) (n := t654.length) (c := co31) ?_).2.2; exact (rg3_ HO656 BK694)); (case side2 => exact (Kd.jC HO656.out).2.1); (case side3 => refine (Kd.jC (e := 22) (base := w.heap.size) (ok := fun k_ => ((((((((some k_ ≠ (.slice Ao31 t654.length co31 : Value).ownBlock ∧ some k_ ≠ (.slice Ao39 t662.length co39 : Value).ownBlock) ∧ some k_ ≠ (.slice Ao40 t665.length co40 : Value).ownBlock) ∧ some k_ ≠ (.slice Ao48 t670.length co48 : Value).ownBlock) ∧ some k_ ≠ (.slice Ao49 t673.length co49 : Value).ownBlock) ∧ some k_ ≠ (.slice Ao58 t678.length co58 : Value).ownBlock) ∧ some k_ ≠ (.slice Ao59 t681.length co59 : Value).ownBlock) ∧ some k_ ≠ (.slice Ao70 t687.length co70 : Value).ownBlock) ∧ some k_ ≠ (.slice Ao71 t690.length co71 : Value).ownBlock)) (n := t657.length) (c := co32) ?_).2.2; exact (rg3_ HO659 BK694)); (case side4 => exact (Kd.jC HO659.out).2.1); (case side5 => refine (Kd.jC (e := 22) (base := w.heap.size) (ok := fun k_ => ((((((((some k_ ≠ (.slice Ao49 t673.length co49 : Value).ownBlock ∧ some k_ ≠ (.slice Ao31 t654.length co31 : Value).ownBlock) ∧ some k_ ≠ (.slice Ao32 t657.length co32 : Value).ownBlock) ∧ some k_ ≠ (.slice Ao39 t662.length co39 : Value).ownBlock) ∧ some k_ ≠ (.slice Ao40 t665.length co40 : Value).ownBlock) ∧ some k_ ≠ (.slice Ao58 t678.length co58 : Value).ownBlock) ∧ some k_ ≠ (.slice Ao59 t681.length co59 : Value).ownBlock) ∧ some k_ ≠ (.slice Ao70 t687.length co70 : Value).ownBlock) ∧ some k_ ≠ (.slice Ao71 t690.length co71 : Value).ownBlock)) (n := t670.length) (c := co48) ?_).2.2; exact (rg3_ HO672 BK694)); (case side6 => exact (Kd.jC HO672.out).2.1); (case side7 => refine (Kd.jC (e := 22) (base := w.heap.size) (ok := fun k_ => ((((((((some k_ ≠ (.slice Ao48 t670.length co48 : Value).ownBlock ∧ some k_ ≠ (.slice Ao31 t654.length co31 : Value).ownBlock) ∧ some k_ ≠ (.slice Ao32 t657.length co32 : Value).ownBlock) ∧ some k_ ≠ (.slice Ao39 t662.length co39 : Value).ownBlock) ∧ some k_ ≠ (.slice Ao40 t665.length co40 : Value).ownBlock) ∧ some k_ ≠ (.slice Ao58 t678.length co58 : Value).ownBlock) ∧ some k_ ≠ (.slice Ao59 t681.length co59 : Value).ownBlock) ∧ some k_ ≠ (.slice Ao70 t687.length co70 : Value).ownBlock) ∧ some k_ ≠ (.slice Ao71 t690.length co71 : Value).ownBlock)) (n := t673.length) (c := co49) ?_).2.2; exact (rg3_ HO675 BK694)); (case side8 => exact (Kd.jC HO675.out).2.1); rintro e w74 ⟨v697, v700, rfl, ho0, ho1, hb⟩; refine ⟨_, rfl, ?_⟩; have HO698 := jA.mk (Kd.jM (Kd.jH (Kd.jH (Kd.jH (Kd.jH (Kd.jH (Kd.jH (Kd.jH (Kd.jH (Kd.jH (Kd.jH ho0 (Kd.R_lt (rg3_ HO656 BK694))) (Kd.R_lt (rg3_ HO659 BK694))) (Kd.R_lt (rg3_ HO664 BK694))) (Kd.R_lt (rg3_ HO667 BK694))) (Kd.R_lt (rg3_ HO672 BK694))) (Kd.R_lt (rg3_ HO675 BK694))) (Kd.R_lt (rg3_ HO680 BK694))) (Kd.R_lt (rg3_ HO683 BK694))) (Kd.R_lt (rg3_ HO689 BK694))) (Kd.R_lt (rg3_ HO692 BK694))) (jB (bb6_ HB GE652 GE660 GE668 GE676 GE685 GE694))); have HO701 := jA.mk (Kd.jM (Kd.jH (Kd.jH (Kd.jH (Kd.jH (Kd.jH (Kd.jH (Kd.jH (Kd.jH (Kd.jH (Kd.jH ho1 (Kd.R_lt (rg3_ HO656 BK694))) (Kd.R_lt (rg3_ HO659 BK694))) (Kd.R_lt (rg3_ HO664 BK694))) (Kd.R_lt (rg3_ HO667 BK694))) (Kd.R_lt (rg3_ HO672 BK694))) (Kd.R_lt (rg3_ HO675 BK694))) (Kd.R_lt (rg3_ HO680 BK694))) (Kd.R_lt (rg3_ HO683 BK694))) (Kd.R_lt (rg3_ HO689 BK694))) (Kd.R_lt (rg3_ HO692 BK694))) (jB (bb6_ HB GE652 GE660 GE668 GE676 GE685 GE694))); replace HO656 := jA.mk (Kd.jN (Kd.jd (Kd.jd (Kd.zU (rg3_ HO656 BK694) hb) (Kd.jU ho0)) (Kd.jU ho1)) (fun _ h_ => h_.1)); replace HO659 := jA.mk (Kd.jN (Kd.jd (Kd.jd (Kd.zU (rg3_ HO659 BK694) hb) (Kd.jU ho0)) (Kd.jU ho1)) (fun _ h_ => h_.1)); replace HO664 := jA.mk (Kd.jN (Kd.jd (Kd.jd (Kd.zU (rg3_ HO664 BK694) hb) (Kd.jU ho0)) (Kd.jU ho1)) (fun _ h_ => h_.1)); replace HO667 := jA.mk (Kd.jN (Kd.jd (Kd.jd (Kd.zU (rg3_ HO667 BK694) hb) (Kd.jU ho0)) (Kd.jU ho1)) (fun _ h_ => h_.1)); replace HO672 := jA.mk (Kd.jN (Kd.jd (Kd.jd (Kd.zU (rg3_ HO672 BK694) hb) (Kd.jU ho0)) (Kd.jU ho1)) (fun _ h_ => h_.1)); replace HO675 := jA.mk (Kd.jN (Kd.jd (Kd.jd (Kd.zU (rg3_ HO675 BK694) hb) (Kd.jU ho0)) (Kd.jU ho1)) (fun _ h_ => h_.1)); replace HO680 := jA.mk (Kd.jN (Kd.jd (Kd.jd (Kd.zU (rg3_ HO680 BK694) hb) (Kd.jU ho0)) (Kd.jU ho1)) (fun _ h_ => h_.1)); replace HO683 := jA.mk (Kd.jN (Kd.jd (Kd.jd (Kd.zU (rg3_ HO683 BK694) hb) (Kd.jU ho0)) (Kd.jU ho1)) (fun _ h_ => h_.1)); replace HO689 := jA.mk (Kd.jN (Kd.jd (Kd.jd (Kd.zU (rg3_ HO689 BK694) hb) (Kd.jU ho0)) (Kd.jU ho1)) (fun _ h_ => h_.1)); replace HO692 := jA.mk (Kd.jN (Kd.jd (Kd.jd (Kd.zU (rg3_ HO692 BK694) hb) (Kd.jU ho0)) (Kd.jU ho1)) (fun _ h_ => h_.1)); replace BK652 := jA.mk (jq (g := gb652) (o := .cells #[.bool a0_0, .bool a0_1, .bool a0_2, .int .u32 a0_3, .int .u32 a0_4, .int .u32 a0_5, .int .u32 a0_6, .int .u32 a0_7, .int .u32 a0_8] 71 (0, 0)) (by refine pk_ ?_; refine jm ?_ NB652_694.out _; refine pk_ ?_; refine jm ?_ NB652_694.out _; refine pk_ ?_; refine jm ?_ NB652_694.out _; refine pk_ ?_; exact BK652.out) hb); replace BK660 := jA.mk (jq (g := gb660) (o := .cells #[.bool t653, .slice Ao31 t654.length co31, .slice Ao32 t657.length co32] 44 (0, 0)) (by refine pk_ ?_; refine jm ?_ NB660_694.out _; refine pk_ ?_; refine jm ?_ NB660_694.out _; refine pk_ ?_; refine jm ?_ NB660_694.out _; refine pk_ ?_; exact BK660.out) hb); replace BK668 := jA.mk (jq (g := gb668) (o := .cells #[.bool t661, .slice Ao39 t662.length co39, .slice Ao40 t665.length co40] 44 (0, 0)) (by refine pk_ ?_; refine jm ?_ NB668_694.out _; refine pk_ ?_; refine jm ?_ NB668_694.out _; refine pk_ ?_; refine jm ?_ NB668_694.out _; refine pk_ ?_; exact BK668.out) hb); replace BK676 := jA.mk (jq (g := gb676) (o := .cells #[.bool t669, .slice Ao48 t670.length co48, .slice Ao49 t673.length co49] 44 (0, 0)) (by refine pk_ ?_; refine jm ?_ NB676_694.out _; refine pk_ ?_; refine jm ?_ NB676_694.out _; refine pk_ ?_; refine jm ?_ NB676_694.out _; refine pk_ ?_; exact BK676.out) hb); replace BK685 := jA.mk (jq (g := gb685) (o := .cells #[.bool t677, .slice Ao58 t678.length co58, .slice Ao59 t681.length co59] 44 (0, 0)) (by refine pk_ ?_; refine jm ?_ NB685_694.out _; refine pk_ ?_; refine jm ?_ NB685_694.out _; refine pk_ ?_; refine jm ?_ NB685_694.out _; refine pk_ ?_; exact BK685.out) hb); replace BK694 := jA.mk (jq (g := gb694) (o := .cells #[.bool t686, .slice Ao70 t687.length co70, .slice Ao71 t690.length co71] 44 (0, 0)) (by refine pk_ ?_; refine jv (cs := #[.bool t686, .slice Ao70 t687.length co70, .slice none 0 0]) ?_ 2 _ rs_; refine pk_ ?_; refine jv (cs := #[.bool t686, .slice none 0 0, .slice none 0 0]) ?_ 1 _ rs_; refine pk_ ?_; refine jv (cs := #[.bool false, .slice none 0 0, .slice none 0 0]) ?_ 0 _ rs_; refine pk_ ?_; exact BK694.out) hb); replace HB := jA.mk (jK (bb6_ HB GE652 GE660 GE668 GE676 GE685 GE694) hb)) | ((with_reducible refine je (N := 10) rfl ?_); refine vQ ?hg (N := 10) ?hd (cs := #[.bool false, .slice none 0 0, .slice none 0 0]) (t := 44) ?hr ?_; (case hd => rfl); (case hg => rfl); (case hr => exact gs_); intro gb703 hg w75 hbox hb; replace HO656 := ro_ HO656 hb; replace HO659 := ro_ HO659 hb; replace HO664 := ro_ HO664 hb; replace HO667 := ro_ HO667 hb; replace HO672 := ro_ HO672 hb; replace HO675 := ro_ HO675 hb; replace HO680 := ro_ HO680 hb; replace HO683 := ro_ HO683 hb; replace HO689 := ro_ HO689 hb; replace HO692 := ro_ HO692 hb; replace HO698 := ro_ HO698 hb; replace HO701 := ro_ HO701 hb; have BK703 := jA.mk (hbox); have GW703 := jA.mk ((by rw [hg]; exact (jB (bb6_ HB GE652 GE660 GE668 GE676 GE685 GE694)) : w.heap.size ≤ gb703)); have GE703 := jA.mk ((by rw [hg]; exact (jB (bb6_ HB GE652 GE660 GE668 GE676 GE685 GE694)) : w.heap.size ≤ gb703)); replace HB := jA.mk (jK (bb6_ HB GE652 GE660 GE668 GE676 GE685 GE694) hb); have NB652_703 := jA.mk ((by rw [hg]; exact Nat.ne_of_lt (vI (g := gb652) (o := .cells #[.bool a0_0, .bool a0_1, .bool a0_2, .int .u32 a0_3, .int .u32 a0_4, .int .u32 a0_5, .int .u32 a0_6, .int .u32 a0_7, .int .u32 a0_8] 71 (0, 0)) (kb_ BK652)) : gb652 ≠ gb703)); have NB703_652 := jA.mk ((by rw [hg]; exact Nat.ne_of_gt (vI (g := gb652) (o := .cells #[.bool a0_0, .bool a0_1, .bool a0_2, .int .u32 a0_3, .int .u32 a0_4, .int .u32 a0_5, .int .u32 a0_6, .int .u32 a0_7, .int .u32 a0_8] 71 (0, 0)) (kb_ BK652)) : gb703 ≠ gb652)); replace BK652 := bk_ BK652 hb; have NB660_703 := jA.mk ((by rw [hg]; exact Nat.ne_of_lt (vI (g := gb660) (o := .cells #[.bool t653, .slice Ao31 t654.length co31, .slice Ao32 t657.length co32] 44 (0, 0)) (kb_ BK660)) : gb660 ≠ gb703)); have NB703_660 := jA.mk ((by rw [hg]; exact Nat.ne_of_gt (vI (g := gb660) (o := .cells #[.bool t653, .slice Ao31 t654.length co31, .slice Ao32 t657.length co32] 44 (0, 0)) (kb_ BK660)) : gb703 ≠ gb660)); replace BK660 := bk_ BK660 hb; have NB668_703 := jA.mk ((by rw [hg]; exact Nat.ne_of_lt (vI (g := gb668) (o := .cells #[.bool t661, .slice Ao39 t662.length co39, .slice Ao40 t665.length co40] 44 (0, 0)) (kb_ BK668)) : gb668 ≠ gb703)); have NB703_668 := jA.mk ((by rw [hg]; exact Nat.ne_of_gt (vI (g := gb668) (o := .cells #[.bool t661, .slice Ao39 t662.length co39, .slice Ao40 t665.length co40] 44 (0, 0)) (kb_ BK668)) : gb703 ≠ gb668)); replace BK668 := bk_ BK668 hb; have NB676_703 := jA.mk ((by rw [hg]; exact Nat.ne_of_lt (vI (g := gb676) (o := .cells #[.bool t669, .slice Ao48 t670.length co48, .slice Ao49 t673.length co49] 44 (0, 0)) (kb_ BK676)) : gb676 ≠ gb703)); have NB703_676 := jA.mk ((by rw [hg]; exact Nat.ne_of_gt (vI (g := gb676) (o := .cells #[.bool t669, .slice Ao48 t670.length co48, .slice Ao49 t673.length co49] 44 (0, 0)) (kb_ BK676)) : gb703 ≠ gb676)); replace BK676 := bk_ BK676 hb; have NB685_703 := jA.mk ((by rw [hg]; exact Nat.ne_of_lt (vI (g := gb685) (o := .cells #[.bool t677, .slice Ao58 t678.length co58, .slice Ao59 t681.length co59] 44 (0, 0)) (kb_ BK685)) : gb685 ≠ gb703)); have NB703_685 := jA.mk ((by rw [hg]; exact Nat.ne_of_gt (vI (g := gb685) (o := .cells #[.bool t677, .slice Ao58 t678.length co58, .slice Ao59 t681.length co59] 44 (0, 0)) (kb_ BK685)) : gb703 ≠ gb685)); replace BK685 := bk_ BK685 hb; have NB694_703 := jA.mk ((by rw [hg]; exact Nat.ne_of_lt (vI (g := gb694) (o := .cells #[.bool t686, .slice Ao70 t687.length co70, .slice Ao71 t690.length co71] 44 (0, 0)) (kb_ BK694)) : gb694 ≠ gb703)); have NB703_694 := jA.mk ((by rw [hg]; exact Nat.ne_of_gt (vI (g := gb694) (o := .cells #[.bool t686, .slice Ao70 t687.length co70, .slice Ao71 t690.length co71] 44 (0, 0)) (kb_ BK694)) : gb703 ≠ gb694)); replace BK694 := bk_ BK694 hb; clear hb hbox hg; have hnb76 := NB703_652.out; have hnc76 := NB652_703.out; have hnb77 := NB703_660.out; have hnc77 := NB660_703.out; have hnb78 := NB703_668.out; have hnc78 := NB668_703.out; have hnb79 := NB703_676.out; have hnc79 := NB676_703.out; have hnb80 := NB703_685.out; have hnc80 := NB685_703.out; have hnb81 := NB703_694.out; have hnc81 := NB694_703.out; obtain ⟨hcz82_0, hcz82_1, hcz82_2, hfz82_0, hfz82_1, hfz82_2⟩ := bf3_ BK703; obtain ⟨Ao83, co83, eo83⟩ := Kd.jW HO698.out; subst eo83; obtain ⟨Ao84, co84, eo84⟩ := Kd.jW HO701.out; subst eo84; obtain ⟨hcz85_0, hcz85_1, hcz85_2, hfz85_0, hfz85_1, hfz85_2⟩ := bf3_ BK668; obtain ⟨hcz86_0, hcz86_1, hcz86_2, hfz86_0, hfz86_1, hfz86_2⟩ := bf3_ BK676) | ((with_reducible refine jE (f := 51) rfl ?_); refine jh (some 67) rfl rfl Try.func51 kr_ rfl #[.agg #[.bool t661, .slice Ao39 t662.length co39, .slice Ao40 t665.length co40], .agg #[.bool t669, .slice Ao48 t670.length co48, .slice Ao49 t673.length co49]] rfl mt_ ?_; (with_reducible refine (vK.calls k t661 _ _ t662 _ _ t665 t669 _ _ t670 _ _ t673 t704 t705 t708 t711 _ ?side1 ?side2 ?side3 ?side4 ?side5 ?side6 ?side7 ?side8 A8.out).mono ?_); (case side1 => refine (Kd.jC (e := 22) (base := w.heap.size) (ok := fun k_ => ((((((((((some k_ ≠ (.slice Ao40 t665.length co40 : Value).ownBlock ∧ some k_ ≠ (.slice Ao31 t654.length co31 : Value).ownBlock) ∧ some k_ ≠ (.slice Ao32 t657.length co32 : Value).ownBlock) ∧ some k_ ≠ (.slice Ao48 t670.length co48 : Value).ownBlock) ∧ some k_ ≠ (.slice Ao49 t673.length co49 : Value).ownBlock) ∧ some k_ ≠ (.slice Ao58 t678.length co58 : Value).ownBlock) ∧ some k_ ≠ (.slice Ao59 t681.length co59 : Value).ownBlock) ∧ some k_ ≠ (.slice Ao70 t687.length co70 : Value).ownBlock) ∧ some k_ ≠ (.slice Ao71 t690.length co71 : Value).ownBlock) ∧ some k_ ≠ (.slice Ao83 t696.length co83 : Value).ownBlock) ∧ some k_ ≠ (.slice Ao84 t699.length co84 : Value).ownBlock)) (n := t662.length) (c := co39) ?_).2.2; exact (rg3_ HO664 BK703)); (case side2 => exact (Kd.jC HO664.out).2.1); (case side3 => refine (Kd.jC (e := 22) (base := w.heap.size) (ok := fun k_ => ((((((((((some k_ ≠ (.slice Ao39 t662.length co39 : Value).ownBlock ∧ some k_ ≠ (.slice Ao31 t654.length co31 : Value).ownBlock) ∧ some k_ ≠ (.slice Ao32 t657.length co32 : Value).ownBlock) ∧ some k_ ≠ (.slice Ao48 t670.length co48 : Value).ownBlock) ∧ some k_ ≠ (.slice Ao49 t673.length co49 : Value).ownBlock) ∧ some k_ ≠ (.slice Ao58 t678.length co58 : Value).ownBlock) ∧ some k_ ≠ (.slice Ao59 t681.length co59 : Value).ownBlock) ∧ some k_ ≠ (.slice Ao70 t687.length co70 : Value).ownBlock) ∧ some k_ ≠ (.slice Ao71 t690.length co71 : Value).ownBlock) ∧ some k_ ≠ (.slice Ao83 t696.length co83 : Value).ownBlock) ∧ some k_ ≠ (.slice Ao84 t699.length co84 : Value).ownBlock)) (n := t665.length) (c := co40) ?_).2.2; exact (rg3_ HO667 BK703)); (case side4 => exact (Kd.jC HO667.out).2.1); (case side5 => refine (Kd.jC (e := 22) (base := w.heap.size) (ok := fun k_ => ((((((((((some k_ ≠ (.slice Ao49 t673.length co49 : Value).ownBlock ∧ some k_ ≠ (.slice Ao31 t654.length co31 : Value).ownBlock) ∧ some k_ ≠ (.slice Ao32 t657.length co32 : Value).ownBlock) ∧ some k_ ≠ (.slice Ao39 t662.length co39 : Value).ownBlock) ∧ some k_ ≠ (.slice Ao40 t665.length co40 : Value).ownBlock) ∧ some k_ ≠ (.slice Ao58 t678.length co58 : Value).ownBlock) ∧ some k_ ≠ (.slice Ao59 t681.length co59 : Value).ownBlock) ∧ some k_ ≠ (.slice Ao70 t687.length co70 : Value).ownBlock) ∧ some k_ ≠ (.slice Ao71 t690.length co71 : Value).ownBlock) ∧ some k_ ≠ (.slice Ao83 t696.length co83 : Value).ownBlock) ∧ some k_ ≠ (.slice Ao84 t699.length co84 : Value).ownBlock)) (n := t670.length) (c := co48) ?_).2.2; exact (rg3_ HO672 BK703)); (case side6 => exact (Kd.jC HO672.out).2.1); (case side7 => refine (Kd.jC (e := 22) (base := w.heap.size) (ok := fun k_ => ((((((((((some k_ ≠ (.slice Ao48 t670.length co48 : Value).ownBlock ∧ some k_ ≠ (.slice Ao31 t654.length co31 : Value).ownBlock) ∧ some k_ ≠ (.slice Ao32 t657.length co32 : Value).ownBlock) ∧ some k_ ≠ (.slice Ao39 t662.length co39 : Value).ownBlock) ∧ some k_ ≠ (.slice Ao40 t665.length co40 : Value).ownBlock) ∧ some k_ ≠ (.slice Ao58 t678.length co58 : Value).ownBlock) ∧ some k_ ≠ (.slice Ao59 t681.length co59 : Value).ownBlock) ∧ some k_ ≠ (.slice Ao70 t687.length co70 : Value).ownBlock) ∧ some k_ ≠ (.slice Ao71 t690.length co71 : Value).ownBlock) ∧ some k_ ≠ (.slice Ao83 t696.length co83 : Value).ownBlock) ∧ some k_ ≠ (.slice Ao84 t699.length co84 : Value).ownBlock)) (n := t673.length) (c := co49) ?_).2.2; exact (rg3_ HO675 BK703)); (case side8 => exact (Kd.jC HO675.out).2.1); rintro e w87 ⟨v706, v709, rfl, ho0, ho1, hb⟩; refine ⟨_, rfl, ?_⟩; have HO707 := jA.mk (Kd.jM (Kd.jH (Kd.jH (Kd.jH (Kd.jH (Kd.jH (Kd.jH (Kd.jH (Kd.jH (Kd.jH (Kd.jH (Kd.jH (Kd.jH ho0 (Kd.R_lt (rg3_ HO656 BK703))) (Kd.R_lt (rg3_ HO659 BK703))) (Kd.R_lt (rg3_ HO664 BK703))) (Kd.R_lt (rg3_ HO667 BK703))) (Kd.R_lt (rg3_ HO672 BK703))) (Kd.R_lt (rg3_ HO675 BK703))) (Kd.R_lt (rg3_ HO680 BK703))) (Kd.R_lt (rg3_ HO683 BK703))) (Kd.R_lt (rg3_ HO689 BK703))) (Kd.R_lt (rg3_ HO692 BK703))) (Kd.R_lt (rg3_ HO698 BK703))) (Kd.R_lt (rg3_ HO701 BK703))) (jB (bb7_ HB GE652 GE660 GE668 GE676 GE685 GE694 GE703))); have HO710 := jA.mk (Kd.jM (Kd.jH (Kd.jH (Kd.jH (Kd.jH (Kd.jH (Kd.jH (Kd.jH (Kd.jH (Kd.jH (Kd.jH (Kd.jH (Kd.jH ho1 (Kd.R_lt (rg3_ HO656 BK703))) (Kd.R_lt (rg3_ HO659 BK703))) (Kd.R_lt (rg3_ HO664 BK703))) (Kd.R_lt (rg3_ HO667 BK703))) (Kd.R_lt (rg3_ HO672 BK703))) (Kd.R_lt (rg3_ HO675 BK703))) (Kd.R_lt (rg3_ HO680 BK703))) (Kd.R_lt (rg3_ HO683 BK703))) (Kd.R_lt (rg3_ HO689 BK703))) (Kd.R_lt (rg3_ HO692 BK703))) (Kd.R_lt (rg3_ HO698 BK703))) (Kd.R_lt (rg3_ HO701 BK703))) (jB (bb7_ HB GE652 GE660 GE668 GE676 GE685 GE694 GE703))); replace HO656 := jA.mk (Kd.jN (Kd.jd (Kd.jd (Kd.zU (rg3_ HO656 BK703) hb) (Kd.jU ho0)) (Kd.jU ho1)) (fun _ h_ => h_.1)); replace HO659 := jA.mk (Kd.jN (Kd.jd (Kd.jd (Kd.zU (rg3_ HO659 BK703) hb) (Kd.jU ho0)) (Kd.jU ho1)) (fun _ h_ => h_.1)); replace HO664 := jA.mk (Kd.jN (Kd.jd (Kd.jd (Kd.zU (rg3_ HO664 BK703) hb) (Kd.jU ho0)) (Kd.jU ho1)) (fun _ h_ => h_.1)); replace HO667 := jA.mk (Kd.jN (Kd.jd (Kd.jd (Kd.zU (rg3_ HO667 BK703) hb) (Kd.jU ho0)) (Kd.jU ho1)) (fun _ h_ => h_.1)); replace HO672 := jA.mk (Kd.jN (Kd.jd (Kd.jd (Kd.zU (rg3_ HO672 BK703) hb) (Kd.jU ho0)) (Kd.jU ho1)) (fun _ h_ => h_.1)); replace HO675 := jA.mk (Kd.jN (Kd.jd (Kd.jd (Kd.zU (rg3_ HO675 BK703) hb) (Kd.jU ho0)) (Kd.jU ho1)) (fun _ h_ => h_.1)); replace HO680 := jA.mk (Kd.jN (Kd.jd (Kd.jd (Kd.zU (rg3_ HO680 BK703) hb) (Kd.jU ho0)) (Kd.jU ho1)) (fun _ h_ => h_.1)); replace HO683 := jA.mk (Kd.jN (Kd.jd (Kd.jd (Kd.zU (rg3_ HO683 BK703) hb) (Kd.jU ho0)) (Kd.jU ho1)) (fun _ h_ => h_.1)); replace HO689 := jA.mk (Kd.jN (Kd.jd (Kd.jd (Kd.zU (rg3_ HO689 BK703) hb) (Kd.jU ho0)) (Kd.jU ho1)) (fun _ h_ => h_.1)); replace HO692 := jA.mk (Kd.jN (Kd.jd (Kd.jd (Kd.zU (rg3_ HO692 BK703) hb) (Kd.jU ho0)) (Kd.jU ho1)) (fun _ h_ => h_.1)); replace HO698 := jA.mk (Kd.jN (Kd.jd (Kd.jd (Kd.zU (rg3_ HO698 BK703) hb) (Kd.jU ho0)) (Kd.jU ho1)) (fun _ h_ => h_.1)); replace HO701 := jA.mk (Kd.jN (Kd.jd (Kd.jd (Kd.zU (rg3_ HO701 BK703) hb) (Kd.jU ho0)) (Kd.jU ho1)) (fun _ h_ => h_.1)); replace BK652 := jA.mk (jq (g := gb652) (o := .cells #[.bool a0_0, .bool a0_1, .bool a0_2, .int .u32 a0_3, .int .u32 a0_4, .int .u32 a0_5, .int .u32 a0_6, .int .u32 a0_7, .int .u32 a0_8] 71 (0, 0)) (by refine pk_ ?_; refine jm ?_ NB652_703.out _; refine pk_ ?_; refine jm ?_ NB652_703.out _; refine pk_ ?_; refine jm ?_ NB652_703.out _; refine pk_ ?_; exact BK652.out) hb); replace BK660 := jA.mk (jq (g := gb660) (o := .cells #[.bool t653, .slice Ao31 t654.length co31, .slice Ao32 t657.length co32] 44 (0, 0)) (by refine pk_ ?_; refine jm ?_ NB660_703.out _; refine pk_ ?_; refine jm ?_ NB660_703.out _; refine pk_ ?_; refine jm ?_ NB660_703.out _; refine pk_ ?_; exact BK660.out) hb); replace BK668 := jA.mk (jq (g := gb668) (o := .cells #[.bool t661, .slice Ao39 t662.length co39, .slice Ao40 t665.length co40] 44 (0, 0)) (by refine pk_ ?_; refine jm ?_ NB668_703.out _; refine pk_ ?_; refine jm ?_ NB668_703.out _; refine pk_ ?_; refine jm ?_ NB668_703.out _; refine pk_ ?_; exact BK668.out) hb); replace BK676 := jA.mk (jq (g := gb676) (o := .cells #[.bool t669, .slice Ao48 t670.length co48, .slice Ao49 t673.length co49] 44 (0, 0)) (by refine pk_ ?_; refine jm ?_ NB676_703.out _; refine pk_ ?_; refine jm ?_ NB676_703.out _; refine pk_ ?_; refine jm ?_ NB676_703.out _; refine pk_ ?_; exact BK676.out) hb); replace BK685 := jA.mk (jq (g := gb685) (o := .cells #[.bool t677, .slice Ao58 t678.length co58, .slice Ao59 t681.length co59] 44 (0, 0)) (by refine pk_ ?_; refine jm ?_ NB685_703.out _; refine pk_ ?_; refine jm ?_ NB685_703.out _; refine pk_ ?_; refine jm ?_ NB685_703.out _; refine pk_ ?_; exact BK685.out) hb); replace BK694 := jA.mk (jq (g := gb694) (o := .cells #[.bool t686, .slice Ao70 t687.length co70, .slice Ao71 t690.length co71] 44 (0, 0)) (by refine pk_ ?_; refine jm ?_ NB694_703.out _; refine pk_ ?_; refine jm ?_ NB694_703.out _; refine pk_ ?_; refine jm ?_ NB694_703.out _; refine pk_ ?_; exact BK694.out) hb); replace BK703 := jA.mk (jq (g := gb703) (o := .cells #[.bool t695, .slice Ao83 t696.length co83, .slice Ao84 t699.length co84] 44 (0, 0)) (by refine pk_ ?_; refine jv (cs := #[.bool t695, .slice Ao83 t696.length co83, .slice none 0 0]) ?_ 2 _ rs_; refine pk_ ?_; refine jv (cs := #[.bool t695, .slice none 0 0, .slice none 0 0]) ?_ 1 _ rs_; refine pk_ ?_; refine jv (cs := #[.bool false, .slice none 0 0, .slice none 0 0]) ?_ 0 _ rs_; refine pk_ ?_; exact BK703.out) hb); replace HB := jA.mk (jK (bb7_ HB GE652 GE660 GE668 GE676 GE685 GE694 GE703) hb)) | ((with_reducible refine je (N := 12) rfl ?_); refine vQ ?hg (N := 12) ?hd (cs := #[.bool false, .slice none 0 0, .slice none 0 0]) (t := 44) ?hr ?_; (case hd => rfl); (case hg => rfl); (case hr => exact gs_); intro gb712 hg w88 hbox hb; replace HO656 := ro_ HO656 hb; replace HO659 := ro_ HO659 hb; replace HO664 := ro_ HO664 hb; replace HO667 := ro_ HO667 hb; replace HO672 := ro_ HO672 hb; replace HO675 := ro_ HO675 hb; replace HO680 := ro_ HO680 hb; replace HO683 := ro_ HO683 hb; replace HO689 := ro_ HO689 hb; replace HO692 := ro_ HO692 hb; replace HO698 := ro_ HO698 hb; replace HO701 := ro_ HO701 hb; replace HO707 := ro_ HO707 hb; replace HO710 := ro_ HO710 hb; have BK712 := jA.mk (hbox); have GW712 := jA.mk ((by rw [hg]; exact (jB (bb7_ HB GE652 GE660 GE668 GE676 GE685 GE694 GE703)) : w.heap.size ≤ gb712)); have GE712 := jA.mk ((by rw [hg]; exact (jB (bb7_ HB GE652 GE660 GE668 GE676 GE685 GE694 GE703)) : w.heap.size ≤ gb712)); replace HB := jA.mk (jK (bb7_ HB GE652 GE660 GE668 GE676 GE685 GE694 GE703) hb); have NB652_712 := jA.mk ((by rw [hg]; exact Nat.ne_of_lt (vI (g := gb652) (o := .cells #[.bool a0_0, .bool a0_1, .bool a0_2, .int .u32 a0_3, .int .u32 a0_4, .int .u32 a0_5, .int .u32 a0_6, .int .u32 a0_7, .int .u32 a0_8] 71 (0, 0)) (kb_ BK652)) : gb652 ≠ gb712)); have NB712_652 := jA.mk ((by rw [hg]; exact Nat.ne_of_gt (vI (g := gb652) (o := .cells #[.bool a0_0, .bool a0_1, .bool a0_2, .int .u32 a0_3, .int .u32 a0_4, .int .u32 a0_5, .int .u32 a0_6, .int .u32 a0_7, .int .u32 a0_8] 71 (0, 0)) (kb_ BK652)) : gb712 ≠ gb652)); replace BK652 := bk_ BK652 hb; have NB660_712 := jA.mk ((by rw [hg]; exact Nat.ne_of_lt (vI (g := gb660) (o := .cells #[.bool t653, .slice Ao31 t654.length co31, .slice Ao32 t657.length co32] 44 (0, 0)) (kb_ BK660)) : gb660 ≠ gb712)); have NB712_660 := jA.mk ((by rw [hg]; exact Nat.ne_of_gt (vI (g := gb660) (o := .cells #[.bool t653, .slice Ao31 t654.length co31, .slice Ao32 t657.length co32] 44 (0, 0)) (kb_ BK660)) : gb712 ≠ gb660)); replace BK660 := bk_ BK660 hb; have NB668_712 := jA.mk ((by rw [hg]; exact Nat.ne_of_lt (vI (g := gb668) (o := .cells #[.bool t661, .slice Ao39 t662.length co39, .slice Ao40 t665.length co40] 44 (0, 0)) (kb_ BK668)) : gb668 ≠ gb712)); have NB712_668 := jA.mk ((by rw [hg]; exact Nat.ne_of_gt (vI (g := gb668) (o := .cells #[.bool t661, .slice Ao39 t662.length co39, .slice Ao40 t665.length co40] 44 (0, 0)) (kb_ BK668)) : gb712 ≠ gb668)); replace BK668 := bk_ BK668 hb; have NB676_712 := jA.mk ((by rw [hg]; exact Nat.ne_of_lt (vI (g := gb676) (o := .cells #[.bool t669, .slice Ao48 t670.length co48, .slice Ao49 t673.length co49] 44 (0, 0)) (kb_ BK676)) : gb676 ≠ gb712)); have NB712_676 := jA.mk ((by rw [hg]; exact Nat.ne_of_gt (vI (g := gb676) (o := .cells #[.bool t669, .slice Ao48 t670.length co48, .slice Ao49 t673.length co49] 44 (0, 0)) (kb_ BK676)) : gb712 ≠ gb676)); replace BK676 := bk_ BK676 hb; have NB685_712 := jA.mk ((by rw [hg]; exact Nat.ne_of_lt (vI (g := gb685) (o := .cells #[.bool t677, .slice Ao58 t678.length co58, .slice Ao59 t681.length co59] 44 (0, 0)) (kb_ BK685)) : gb685 ≠ gb712)); have NB712_685 := jA.mk ((by rw [hg]; exact Nat.ne_of_gt (vI (g := gb685) (o := .cells #[.bool t677, .slice Ao58 t678.length co58, .slice Ao59 t681.length co59] 44 (0, 0)) (kb_ BK685)) : gb712 ≠ gb685)); replace BK685 := bk_ BK685 hb; have NB694_712 := jA.mk ((by rw [hg]; exact Nat.ne_of_lt (vI (g := gb694) (o := .cells #[.bool t686, .slice Ao70 t687.length co70, .slice Ao71 t690.length co71] 44 (0, 0)) (kb_ BK694)) : gb694 ≠ gb712)); have NB712_694 := jA.mk ((by rw [hg]; exact Nat.ne_of_gt (vI (g := gb694) (o := .cells #[.bool t686, .slice Ao70 t687.length co70, .slice Ao71 t690.length co71] 44 (0, 0)) (kb_ BK694)) : gb712 ≠ gb694)); replace BK694 := bk_ BK694 hb; have NB703_712 := jA.mk ((by rw [hg]; exact Nat.ne_of_lt (vI (g := gb703) (o := .cells #[.bool t695, .slice Ao83 t696.length co83, .slice Ao84 t699.length co84] 44 (0, 0)) (kb_ BK703)) : gb703 ≠ gb712)); have NB712_703 := jA.mk ((by rw [hg]; exact Nat.ne_of_gt (vI (g := gb703) (o := .cells #[.bool t695, .slice Ao83 t696.length co83, .slice Ao84 t699.length co84] 44 (0, 0)) (kb_ BK703)) : gb712 ≠ gb703)); replace BK703 := bk_ BK703 hb; clear hb hbox hg; have hnb89 := NB712_652.out; have hnc89 := NB652_712.out; have hnb90 := NB712_660.out; have hnc90 := NB660_712.out; have hnb91 := NB712_668.out; have hnc91 := NB668_712.out; have hnb92 := NB712_676.out; have hnc92 := NB676_712.out; have hnb93 := NB712_685.out; have hnc93 := NB685_712.out; have hnb94 := NB712_694.out; have hnc94 := NB694_712.out; have hnb95 := NB712_703.out; have hnc95 := NB703_712.out; obtain ⟨hcz96_0, hcz96_1, hcz96_2, hfz96_0, hfz96_1, hfz96_2⟩ := bf3_ BK712; obtain ⟨Ao97, co97, eo97⟩ := Kd.jW HO707.out; subst eo97; obtain ⟨Ao98, co98, eo98⟩ := Kd.jW HO710.out; subst eo98; obtain ⟨hcz99_0, hcz99_1, hcz99_2, hfz99_0, hfz99_1, hfz99_2⟩ := bf3_ BK660; obtain ⟨hcz100_0, hcz100_1, hcz100_2, hfz100_0, hfz100_1, hfz100_2⟩ := bf3_ BK668) | ((with_reducible refine jE (f := 55) rfl ?_); refine jh (some 72) rfl rfl Try.func55 kr_ rfl #[.agg #[.bool t653, .slice Ao31 t654.length co31, .slice Ao32 t657.length co32], .agg #[.bool t661, .slice Ao39 t662.length co39, .slice Ao40 t665.length co40]] rfl mt_ ?_; (with_reducible refine (vN.calls k t653 _ _ t654 _ _ t657 t661 _ _ t662 _ _ t665 t713 _ ?side1 ?side2 ?side3 ?side4 ?side5 ?side6 ?side7 ?side8 A9.out).mono ?_); (case side1 => refine (Kd.jC (e := 22) (base := w.heap.size) (ok := fun k_ => ((((((((((((some k_ ≠ (.slice Ao32 t657.length co32 : Value).ownBlock ∧ some k_ ≠ (.slice Ao39 t662.length co39 : Value).ownBlock) ∧ some k_ ≠ (.slice Ao40 t665.length co40 : Value).ownBlock) ∧ some k_ ≠ (.slice Ao48 t670.length co48 : Value).ownBlock) ∧ some k_ ≠ (.slice Ao49 t673.length co49 : Value).ownBlock) ∧ some k_ ≠ (.slice Ao58 t678.length co58 : Value).ownBlock) ∧ some k_ ≠ (.slice Ao59 t681.length co59 : Value).ownBlock) ∧ some k_ ≠ (.slice Ao70 t687.length co70 : Value).ownBlock) ∧ some k_ ≠ (.slice Ao71 t690.length co71 : Value).ownBlock) ∧ some k_ ≠ (.slice Ao83 t696.length co83 : Value).ownBlock) ∧ some k_ ≠ (.slice Ao84 t699.length co84 : Value).ownBlock) ∧ some k_ ≠ (.slice Ao97 t705.length co97 : Value).ownBlock) ∧ some k_ ≠ (.slice Ao98 t708.length co98 : Value).ownBlock)) (n := t654.length) (c := co31) ?_).2.2; exact (rg3_ HO656 BK712)); (case side2 => exact (Kd.jC HO656.out).2.1); (case side3 => refine (Kd.jC (e := 22) (base := w.heap.size) (ok := fun k_ => ((((((((((((some k_ ≠ (.slice Ao31 t654.length co31 : Value).ownBlock ∧ some k_ ≠ (.slice Ao39 t662.length co39 : Value).ownBlock) ∧ some k_ ≠ (.slice Ao40 t665.length co40 : Value).ownBlock) ∧ some k_ ≠ (.slice Ao48 t670.length co48 : Value).ownBlock) ∧ some k_ ≠ (.slice Ao49 t673.length co49 : Value).ownBlock) ∧ some k_ ≠ (.slice Ao58 t678.length co58 : Value).ownBlock) ∧ some k_ ≠ (.slice Ao59 t681.length co59 : Value).ownBlock) ∧ some k_ ≠ (.slice Ao70 t687.length co70 : Value).ownBlock) ∧ some k_ ≠ (.slice Ao71 t690.length co71 : Value).ownBlock) ∧ some k_ ≠ (.slice Ao83 t696.length co83 : Value).ownBlock) ∧ some k_ ≠ (.slice Ao84 t699.length co84 : Value).ownBlock) ∧ some k_ ≠ (.slice Ao97 t705.length co97 : Value).ownBlock) ∧ some k_ ≠ (.slice Ao98 t708.length co98 : Value).ownBlock)) (n := t657.length) (c := co32) ?_).2.2; exact (rg3_ HO659 BK712)); (case side4 => exact (Kd.jC HO659.out).2.1); (case side5 => refine (Kd.jC (e := 22) (base := w.heap.size) (ok := fun k_ => ((((((((((((some k_ ≠ (.slice Ao40 t665.length co40 : Value).ownBlock ∧ some k_ ≠ (.slice Ao31 t654.length co31 : Value).ownBlock) ∧ some k_ ≠ (.slice Ao32 t657.length co32 : Value).ownBlock) ∧ some k_ ≠ (.slice Ao48 t670.length co48 : Value).ownBlock) ∧ some k_ ≠ (.slice Ao49 t673.length co49 : Value).ownBlock) ∧ some k_ ≠ (.slice Ao58 t678.length co58 : Value).ownBlock) ∧ some k_ ≠ (.slice Ao59 t681.length co59 : Value).ownBlock) ∧ some k_ ≠ (.slice Ao70 t687.length co70 : Value).ownBlock) ∧ some k_ ≠ (.slice Ao71 t690.length co71 : Value).ownBlock) ∧ some k_ ≠ (.slice Ao83 t696.length co83 : Value).ownBlock) ∧ some k_ ≠ (.slice Ao84 t699.length co84 : Value).ownBlock) ∧ some k_ ≠ (.slice Ao97 t705.length co97 : Value).ownBlock) ∧ some k_ ≠ (.slice Ao98 t708.length co98 : Value).ownBlock)) (n := t662.length) (c := co39) ?_).2.2; exact (rg3_ HO664 BK712)); (case side6 => exact (Kd.jC HO664.out).2.1); (case side7 => refine (Kd.jC (e := 22) (base := w.heap.size) (ok := fun k_ => ((((((((((((some k_ ≠ (.slice Ao39 t662.length co39 : Value).ownBlock ∧ some k_ ≠ (.slice Ao31 t654.length co31 : Value).ownBlock) ∧ some k_ ≠ (.slice Ao32 t657.length co32 : Value).ownBlock) ∧ some k_ ≠ (.slice Ao48 t670.length co48 : Value).ownBlock) ∧ some k_ ≠ (.slice Ao49 t673.length co49 : Value).ownBlock) ∧ some k_ ≠ (.slice Ao58 t678.length co58 : Value).ownBlock) ∧ some k_ ≠ (.slice Ao59 t681.length co59 : Value).ownBlock) ∧ some k_ ≠ (.slice Ao70 t687.length co70 : Value).ownBlock) ∧ some k_ ≠ (.slice Ao71 t690.length co71 : Value).ownBlock) ∧ some k_ ≠ (.slice Ao83 t696.length co83 : Value).ownBlock) ∧ some k_ ≠ (.slice Ao84 t699.length co84 : Value).ownBlock) ∧ some k_ ≠ (.slice Ao97 t705.length co97 : Value).ownBlock) ∧ some k_ ≠ (.slice Ao98 t708.length co98 : Value).ownBlock)) (n := t665.length) (c := co40) ?_).2.2; exact (rg3_ HO667 BK712)); (case side8 => exact (Kd.jC HO667.out).2.1); rintro e w101 ⟨rfl, hb⟩; refine ⟨_, rfl, ?_⟩; replace HO656 := jA.mk (Kd.qG (rg3_ HO656 BK712) hb); replace HO659 := jA.mk (Kd.qG (rg3_ HO659 BK712) hb); replace HO664 := jA.mk (Kd.qG (rg3_ HO664 BK712) hb); replace HO667 := jA.mk (Kd.qG (rg3_ HO667 BK712) hb); replace HO672 := jA.mk (Kd.qG (rg3_ HO672 BK712) hb); replace HO675 := jA.mk (Kd.qG (rg3_ HO675 BK712) hb); replace HO680 := jA.mk (Kd.qG (rg3_ HO680 BK712) hb); replace HO683 := jA.mk (Kd.qG (rg3_ HO683 BK712) hb); replace HO689 := jA.mk (Kd.qG (rg3_ HO689 BK712) hb); replace HO692 := jA.mk (Kd.qG (rg3_ HO692 BK712) hb); replace HO698 := jA.mk (Kd.qG (rg3_ HO698 BK712) hb); replace HO701 := jA.mk (Kd.qG (rg3_ HO701 BK712) hb); replace HO707 := jA.mk (Kd.qG (rg3_ HO707 BK712) hb); replace HO710 := jA.mk (Kd.qG (rg3_ HO710 BK712) hb); replace BK652 := jA.mk (jq (g := gb652) (o := .cells #[.bool a0_0, .bool a0_1, .bool a0_2, .int .u32 a0_3, .int .u32 a0_4, .int .u32 a0_5, .int .u32 a0_6, .int .u32 a0_7, .int .u32 a0_8] 71 (0, 0)) (by refine pk_ ?_; refine jm ?_ NB652_712.out _; refine pk_ ?_; refine jm ?_ NB652_712.out _; refine pk_ ?_; refine jm ?_ NB652_712.out _; refine pk_ ?_; exact BK652.out) hb); replace BK660 := jA.mk (jq (g := gb660) (o := .cells #[.bool t653, .slice Ao31 t654.length co31, .slice Ao32 t657.length co32] 44 (0, 0)) (by refine pk_ ?_; refine jm ?_ NB660_712.out _; refine pk_ ?_; refine jm ?_ NB660_712.out _; refine pk_ ?_; refine jm ?_ NB660_712.out _; refine pk_ ?_; exact BK660.out) hb); replace BK668 := jA.mk (jq (g := gb668) (o := .cells #[.bool t661, .slice Ao39 t662.length co39, .slice Ao40 t665.length co40] 44 (0, 0)) (by refine pk_ ?_; refine jm ?_ NB668_712.out _; refine pk_ ?_; refine jm ?_ NB668_712.out _; refine pk_ ?_; refine jm ?_ NB668_712.out _; refine pk_ ?_; exact BK668.out) hb); replace BK676 := jA.mk (jq (g := gb676) (o := .cells #[.bool t669, .slice Ao48 t670.length co48, .slice Ao49 t673.length co49] 44 (0, 0)) (by refine pk_ ?_; refine jm ?_ NB676_712.out _; refine pk_ ?_; refine jm ?_ NB676_712.out _; refine pk_ ?_; refine jm ?_ NB676_712.out _; refine pk_ ?_; exact BK676.out) hb); replace BK685 := jA.mk (jq (g := gb685) (o := .cells #[.bool t677, .slice Ao58 t678.length co58, .slice Ao59 t681.length co59] 44 (0, 0)) (by refine pk_ ?_; refine jm ?_ NB685_712.out _; refine pk_ ?_; refine jm ?_ NB685_712.out _; refine pk_ ?_; refine jm ?_ NB685_712.out _; refine pk_ ?_; exact BK685.out) hb); replace BK694 := jA.mk (jq (g := gb694) (o := .cells #[.bool t686, .slice Ao70 t687.length co70, .slice Ao71 t690.length co71] 44 (0, 0)) (by refine pk_ ?_; refine jm ?_ NB694_712.out _; refine pk_ ?_; refine jm ?_ NB694_712.out _; refine pk_ ?_; refine jm ?_ NB694_712.out _; refine pk_ ?_; exact BK694.out) hb); replace BK703 := jA.mk (jq (g := gb703) (o := .cells #[.bool t695, .slice Ao83 t696.length co83, .slice Ao84 t699.length co84] 44 (0, 0)) (by refine pk_ ?_; refine jm ?_ NB703_712.out _; refine pk_ ?_; refine jm ?_ NB703_712.out _; refine pk_ ?_; refine jm ?_ NB703_712.out _; refine pk_ ?_; exact BK703.out) hb); replace BK712 := jA.mk (jq (g := gb712) (o := .cells #[.bool t704, .slice Ao97 t705.length co97, .slice Ao98 t708.length co98] 44 (0, 0)) (by refine pk_ ?_; refine jv (cs := #[.bool t704, .slice Ao97 t705.length co97, .slice none 0 0]) ?_ 2 _ rs_; refine pk_ ?_; refine jv (cs := #[.bool t704, .slice none 0 0, .slice none 0 0]) ?_ 1 _ rs_; refine pk_ ?_; refine jv (cs := #[.bool false, .slice none 0 0, .slice none 0 0]) ?_ 0 _ rs_; refine pk_ ?_; exact BK712.out) hb); replace HB := jA.mk (jK (bb8_ HB GE652 GE660 GE668 GE676 GE685 GE694 GE703 GE712) hb)))
         have n0_ := jA.mk (Kd.zJ HO656.out)
         have n1_ := jA.mk (Kd.zJ HO659.out)
         have n2_ := jA.mk (Kd.zJ HO664.out)
         have n3_ := jA.mk (Kd.zJ HO667.out)
         have n4_ := jA.mk (Kd.zJ HO672.out)
         have n5_ := jA.mk (Kd.zJ HO675.out)
         have n6_ := jA.mk (Kd.zJ HO680.out)
         have n7_ := jA.mk (Kd.zJ HO683.out)
         have n8_ := jA.mk (Kd.zJ HO689.out)
         have n9_ := jA.mk (Kd.zJ HO692.out)
         have n10_ := jA.mk (Kd.zJ HO698.out)
         have n11_ := jA.mk (Kd.zJ HO701.out)
         have n12_ := jA.mk (Kd.zJ HO707.out)
         have n13_ := jA.mk (Kd.zJ HO710.out)
         have n14_ := jA.mk (vL BK652.out)
         have n15_ := jA.mk (vL BK660.out)
         have n16_ := jA.mk (vL BK668.out)
         have n17_ := jA.mk (vL BK676.out)
         have n18_ := jA.mk (vL BK685.out)
         have n19_ := jA.mk (vL BK694.out)
         have n20_ := jA.mk (vL BK703.out)
         have n21_ := jA.mk (vL BK712.out)
         have n22_ := jA.mk (zR HB.out)
         clear HO656
         clear HO659
         clear HO664
         clear HO667
         clear HO672
         clear HO675
         clear HO680
         clear HO683
         clear HO689
         clear HO692
         clear HO698
         clear HO701
         clear HO707
         clear HO710
         clear BK652
         clear BK660
         clear BK668
         clear BK676
         clear BK685
         clear BK694
         clear BK703
         clear BK712
         clear HB
         have HO656 := n0_
         have HO659 := n1_
         have HO664 := n2_
         have HO667 := n3_
         have HO672 := n4_
         have HO675 := n5_
         have HO680 := n6_
         have HO683 := n7_
         have HO689 := n8_
         have HO692 := n9_
         have HO698 := n10_
         have HO701 := n11_
         have HO707 := n12_
         have HO710 := n13_
         have BK652 := n14_
         have BK660 := n15_
         have BK668 := n16_
         have BK676 := n17_
         have BK685 := n18_
         have BK694 := n19_
         have BK703 := n20_
         have BK712 := n21_
         have HB := n22_
         clear n0_ n1_ n2_ n3_ n4_ n5_ n6_ n7_ n8_ n9_ n10_ n11_ n12_ n13_ n14_ n15_ n16_ n17_ n18_ n19_ n20_ n21_ n22_
         refine jAh (n := 4) (S := fun w' => w'.cell? ⟨gb676, 0, none⟩ = some (.bool t669) ∧ w'.cell? ⟨gb676, 1, none⟩ = some (.slice Ao48 t670.length co48) ∧ w'.cell? ⟨gb676, 2, none⟩ = some (.slice Ao49 t673.length co49)) (ds := []) #[false, false, false, false] kr_ rfl rfl ⟨(jI BK676.out 0).trans rfl, (jI BK676.out 1).trans rfl, (jI BK676.out 2).trans rfl⟩ (fun hHeld => ?_)
         generalize w101.drew = w102 at HO656 HO659 HO664 HO667 HO672 HO675 HO680 HO683 HO689 HO692 HO698 HO701 HO707 HO710 BK652 BK660 BK668 BK676 BK685 BK694 BK703 BK712 HB hHeld ⊢
         refine tk3_ 0 (some 73) (ba_ 4 1) kr_ hHeld ?_
         refine one_ (i := 1) (N := some 74) (ba_ 4 3) rfl rfl kr_ (by decide) (fun K hK => ?_)
         refine jAn Try.func39 kr_ rfl #[.int .i64 0] (by rfl) rfl rfl (by (try simp only [List.map_toArray, List.map_cons, List.map_nil]); first | done | rfl | (simp only [List.length_drop, List.length_take]; rfl)) ?_
         with_reducible refine (zY.calls 0 t714 t715 t718 _ A10.out).mono ?_
         rintro e w103 ⟨v716, v719, rfl, ho0, ho1, hb⟩
         refine ⟨_, rfl, ?_⟩
         have n0_ := jA.mk (Kd.jN (Kd.jd (Kd.jd (Kd.zU (rR_ HO656) hb) (Kd.jU ho0)) (Kd.jU ho1)) (fun _ h_ => h_.1))
         have n1_ := jA.mk (Kd.jN (Kd.jd (Kd.jd (Kd.zU (rR_ HO659) hb) (Kd.jU ho0)) (Kd.jU ho1)) (fun _ h_ => h_.1))
         have n2_ := jA.mk (Kd.jN (Kd.jd (Kd.jd (Kd.zU (rR_ HO664) hb) (Kd.jU ho0)) (Kd.jU ho1)) (fun _ h_ => h_.1))
         have n3_ := jA.mk (Kd.jN (Kd.jd (Kd.jd (Kd.zU (rR_ HO667) hb) (Kd.jU ho0)) (Kd.jU ho1)) (fun _ h_ => h_.1))
         have n4_ := jA.mk (Kd.jN (Kd.jd (Kd.jd (Kd.zU (rR_ HO672) hb) (Kd.jU ho0)) (Kd.jU ho1)) (fun _ h_ => h_.1))
         have n5_ := jA.mk (Kd.jN (Kd.jd (Kd.jd (Kd.zU (rR_ HO675) hb) (Kd.jU ho0)) (Kd.jU ho1)) (fun _ h_ => h_.1))
         have n6_ := jA.mk (Kd.jN (Kd.jd (Kd.jd (Kd.zU (rR_ HO680) hb) (Kd.jU ho0)) (Kd.jU ho1)) (fun _ h_ => h_.1))
         have n7_ := jA.mk (Kd.jN (Kd.jd (Kd.jd (Kd.zU (rR_ HO683) hb) (Kd.jU ho0)) (Kd.jU ho1)) (fun _ h_ => h_.1))
         have n8_ := jA.mk (Kd.jN (Kd.jd (Kd.jd (Kd.zU (rR_ HO689) hb) (Kd.jU ho0)) (Kd.jU ho1)) (fun _ h_ => h_.1))
         have n9_ := jA.mk (Kd.jN (Kd.jd (Kd.jd (Kd.zU (rR_ HO692) hb) (Kd.jU ho0)) (Kd.jU ho1)) (fun _ h_ => h_.1))
         have n10_ := jA.mk (Kd.jN (Kd.jd (Kd.jd (Kd.zU (rR_ HO698) hb) (Kd.jU ho0)) (Kd.jU ho1)) (fun _ h_ => h_.1))
         have n11_ := jA.mk (Kd.jN (Kd.jd (Kd.jd (Kd.zU (rR_ HO701) hb) (Kd.jU ho0)) (Kd.jU ho1)) (fun _ h_ => h_.1))
         have n12_ := jA.mk (Kd.jN (Kd.jd (Kd.jd (Kd.zU (rR_ HO707) hb) (Kd.jU ho0)) (Kd.jU ho1)) (fun _ h_ => h_.1))
         have n13_ := jA.mk (Kd.jN (Kd.jd (Kd.jd (Kd.zU (rR_ HO710) hb) (Kd.jU ho0)) (Kd.jU ho1)) (fun _ h_ => h_.1))
         have n14_ := jA.mk (Kd.jM (Kd.jH (Kd.jH (Kd.jH (Kd.jH (Kd.jH (Kd.jH (Kd.jH (Kd.jH (Kd.jH (Kd.jH (Kd.jH (Kd.jH (Kd.jH (Kd.jH ho0 (Kd.R_lt (rR_ HO656))) (Kd.R_lt (rR_ HO659))) (Kd.R_lt (rR_ HO664))) (Kd.R_lt (rR_ HO667))) (Kd.R_lt (rR_ HO672))) (Kd.R_lt (rR_ HO675))) (Kd.R_lt (rR_ HO680))) (Kd.R_lt (rR_ HO683))) (Kd.R_lt (rR_ HO689))) (Kd.R_lt (rR_ HO692))) (Kd.R_lt (rR_ HO698))) (Kd.R_lt (rR_ HO701))) (Kd.R_lt (rR_ HO707))) (Kd.R_lt (rR_ HO710))) (jB (bb8_ HB GE652 GE660 GE668 GE676 GE685 GE694 GE703 GE712)))
         have n15_ := jA.mk (Kd.jM (Kd.jH (Kd.jH (Kd.jH (Kd.jH (Kd.jH (Kd.jH (Kd.jH (Kd.jH (Kd.jH (Kd.jH (Kd.jH (Kd.jH (Kd.jH (Kd.jH ho1 (Kd.R_lt (rR_ HO656))) (Kd.R_lt (rR_ HO659))) (Kd.R_lt (rR_ HO664))) (Kd.R_lt (rR_ HO667))) (Kd.R_lt (rR_ HO672))) (Kd.R_lt (rR_ HO675))) (Kd.R_lt (rR_ HO680))) (Kd.R_lt (rR_ HO683))) (Kd.R_lt (rR_ HO689))) (Kd.R_lt (rR_ HO692))) (Kd.R_lt (rR_ HO698))) (Kd.R_lt (rR_ HO701))) (Kd.R_lt (rR_ HO707))) (Kd.R_lt (rR_ HO710))) (jB (bb8_ HB GE652 GE660 GE668 GE676 GE685 GE694 GE703 GE712)))
         have n16_ := bk_ BK652 hb
         have n17_ := bk_ BK660 hb
         have n18_ := bk_ BK668 hb
         have n19_ := bk_ BK676 hb
         have n20_ := bk_ BK685 hb
         have n21_ := bk_ BK694 hb
         have n22_ := bk_ BK703 hb
         have n23_ := bk_ BK712 hb
         have n24_ := jA.mk (jK (bb8_ HB GE652 GE660 GE668 GE676 GE685 GE694 GE703 GE712) hb)
         clear HO656
         clear HO659
         clear HO664
         clear HO667
         clear HO672
         clear HO675
         clear HO680
         clear HO683
         clear HO689
         clear HO692
         clear HO698
         clear HO701
         clear HO707
         clear HO710
         clear BK652
         clear BK660
         clear BK668
         clear BK676
         clear BK685
         clear BK694
         clear BK703
         clear BK712
         clear HB
         have HO656 := n0_
         have HO659 := n1_
         have HO664 := n2_
         have HO667 := n3_
         have HO672 := n4_
         have HO675 := n5_
         have HO680 := n6_
         have HO683 := n7_
         have HO689 := n8_
         have HO692 := n9_
         have HO698 := n10_
         have HO701 := n11_
         have HO707 := n12_
         have HO710 := n13_
         have HO717 := n14_
         have HO720 := n15_
         have BK652 := n16_
         have BK660 := n17_
         have BK668 := n18_
         have BK676 := n19_
         have BK685 := n20_
         have BK694 := n21_
         have BK703 := n22_
         have BK712 := n23_
         have HB := n24_
         clear n0_ n1_ n2_ n3_ n4_ n5_ n6_ n7_ n8_ n9_ n10_ n11_ n12_ n13_ n14_ n15_ n16_ n17_ n18_ n19_ n20_ n21_ n22_ n23_ n24_
         (try clear hb)
         (try clear hb2)
         (try clear hk)
         (try clear hi)
         (try clear ho0)
         (try clear ho1)
         obtain ⟨Ao104, co104, eo104⟩ := Kd.jW HO717.out
         (first | subst eo104 | (injection eo104 with f1_ f2_ f3_; have f4_ := f1_.symm; have f5_ := f3_.symm; clear f1_ f2_ f3_; subst f4_; subst f5_))
         obtain ⟨Ao105, co105, eo105⟩ := Kd.jW HO720.out
         (first | subst eo105 | (injection eo105 with f1_ f2_ f3_; have f4_ := f1_.symm; have f5_ := f3_.symm; clear f1_ f2_ f3_; subst f4_; subst f5_))
         refine hK.out _ _ ⟨(jI BK676.out 0).trans rfl, (jI BK676.out 1).trans rfl, (jI BK676.out 2).trans rfl⟩ (fun hHeld => ?_)
         clear hK K
         refine qK (a' := ?_) ?_ ?_
         rotate_left
         ·
          show Act.put _ (some 74) _ = _
          simp only [Act.put, ss_, zQ, zn]
          rfl
         refine one_ (i := 2) (N := some 75) (ba_ 4 7) rfl rfl kr_ (by decide) (fun K hK => ?_)
         refine jAn Try.func55 kr_ rfl #[.agg #[.bool t669, .slice Ao48 t670.length co48, .slice Ao49 t673.length co49], .agg #[.bool t714, .slice Ao104 t715.length co104, .slice Ao105 t718.length co105]] (by rfl) rfl rfl (by (try simp only [List.map_toArray, List.map_cons, List.map_nil]); first | done | rfl | (simp only [List.length_drop, List.length_take]; rfl)) ?_
         with_reducible refine (vN.calls k t669 _ _ t670 _ _ t673 t714 _ _ t715 _ _ t718 t721 _ ?side1 ?side2 ?side3 ?side4 ?side5 ?side6 ?side7 ?side8 A11.out).mono ?_
         (case side1 => exact cc_ (Kd.jC HO672.out).2.2)
         (case side2 => exact (Kd.jC HO672.out).2.1)
         (case side3 => exact cc_ (Kd.jC HO675.out).2.2)
         (case side4 => exact (Kd.jC HO675.out).2.1)
         (case side5 => exact cc_ (Kd.jC HO717.out).2.2)
         (case side6 => exact (Kd.jC HO717.out).2.1)
         (case side7 => exact cc_ (Kd.jC HO720.out).2.2)
         (case side8 => exact (Kd.jC HO720.out).2.1)
         rintro e w106 ⟨rfl, hb⟩
         refine ⟨_, rfl, ?_⟩
         have n0_ := ro_ HO656 hb
         have n1_ := ro_ HO659 hb
         have n2_ := ro_ HO664 hb
         have n3_ := ro_ HO667 hb
         have n4_ := ro_ HO672 hb
         have n5_ := ro_ HO675 hb
         have n6_ := ro_ HO680 hb
         have n7_ := ro_ HO683 hb
         have n8_ := ro_ HO689 hb
         have n9_ := ro_ HO692 hb
         have n10_ := ro_ HO698 hb
         have n11_ := ro_ HO701 hb
         have n12_ := ro_ HO707 hb
         have n13_ := ro_ HO710 hb
         have n14_ := ro_ HO717 hb
         have n15_ := ro_ HO720 hb
         have n16_ := bk_ BK652 hb
         have n17_ := bk_ BK660 hb
         have n18_ := bk_ BK668 hb
         have n19_ := bk_ BK676 hb
         have n20_ := bk_ BK685 hb
         have n21_ := bk_ BK694 hb
         have n22_ := bk_ BK703 hb
         have n23_ := bk_ BK712 hb
         have n24_ := jA.mk (jK (bb8_ HB GE652 GE660 GE668 GE676 GE685 GE694 GE703 GE712) hb)
         clear HO656
         clear HO659
         clear HO664
         clear HO667
         clear HO672
         clear HO675
         clear HO680
         clear HO683
         clear HO689
         clear HO692
         clear HO698
         clear HO701
         clear HO707
         clear HO710
         clear HO717
         clear HO720
         clear BK652
         clear BK660
         clear BK668
         clear BK676
         clear BK685
         clear BK694
         clear BK703
         clear BK712
         clear HB
         have HO656 := n0_
         have HO659 := n1_
         have HO664 := n2_
         have HO667 := n3_
         have HO672 := n4_
         have HO675 := n5_
         have HO680 := n6_
         have HO683 := n7_
         have HO689 := n8_
         have HO692 := n9_
         have HO698 := n10_
         have HO701 := n11_
         have HO707 := n12_
         have HO710 := n13_
         have HO717 := n14_
         have HO720 := n15_
         have BK652 := n16_
         have BK660 := n17_
         have BK668 := n18_
         have BK676 := n19_
         have BK685 := n20_
         have BK694 := n21_
         have BK703 := n22_
         have BK712 := n23_
         have HB := n24_
         clear n0_ n1_ n2_ n3_ n4_ n5_ n6_ n7_ n8_ n9_ n10_ n11_ n12_ n13_ n14_ n15_ n16_ n17_ n18_ n19_ n20_ n21_ n22_ n23_ n24_
         (try clear hb)
         (try clear hb2)
         (try clear hk)
         (try clear hi)
         refine hK.out _ _ ⟨(jI BK676.out 0).trans rfl, (jI BK676.out 1).trans rfl, (jI BK676.out 2).trans rfl⟩ (fun hHeld => ?_)
         clear hK K
         refine qK (a' := ?_) ?_ ?_
         rotate_left
         ·
          show Act.put _ (some 75) _ = _
          simp only [Act.put, ss_, zQ, zn]
          rfl
         refine pu_ 3 (some 15) (ba_ 4 15) kr_ ?_
         refine jBK kr_ ?_
         have hcz107_0 : w106.cell? ⟨gb668, 0, none⟩ = some (.bool t661) := (jI BK668.out 0).trans rfl
         have hcz107_1 : w106.cell? ⟨gb668, 1, none⟩ = some (.slice Ao39 t662.length co39) := (jI BK668.out 1).trans rfl
         have hcz107_2 : w106.cell? ⟨gb668, 2, none⟩ = some (.slice Ao40 t665.length co40) := (jI BK668.out 2).trans rfl
         have hfz107_0 := jR BK668.out 0
         have hfz107_1 := jR BK668.out 1
         have hfz107_2 := jR BK668.out 2
         have hcz108_0 : w106.cell? ⟨gb660, 0, none⟩ = some (.bool t653) := (jI BK660.out 0).trans rfl
         have hcz108_1 : w106.cell? ⟨gb660, 1, none⟩ = some (.slice Ao31 t654.length co31) := (jI BK660.out 1).trans rfl
         have hcz108_2 : w106.cell? ⟨gb660, 2, none⟩ = some (.slice Ao32 t657.length co32) := (jI BK660.out 2).trans rfl
         have hfz108_0 := jR BK660.out 0
         have hfz108_1 := jR BK660.out 1
         have hfz108_2 := jR BK660.out 2
         try go_wp2_with (first | (go_at_call 55; (with_reducible refine (vN.calls k t661 _ _ t662 _ _ t665 t653 _ _ t654 _ _ t657 t722 _ ?side1 ?side2 ?side3 ?side4 ?side5 ?side6 ?side7 ?side8 A16.out).mono ?_); (case side1 => exact cc_ (Kd.jC HO664.out).2.2); (case side2 => exact (Kd.jC HO664.out).2.1); (case side3 => exact cc_ (Kd.jC HO667.out).2.2); (case side4 => exact (Kd.jC HO667.out).2.1); (case side5 => exact cc_ (Kd.jC HO656.out).2.2); (case side6 => exact (Kd.jC HO656.out).2.1); (case side7 => exact cc_ (Kd.jC HO659.out).2.2); (case side8 => exact (Kd.jC HO659.out).2.1); rintro e w109 ⟨rfl, hb⟩; replace HO656 := ro_ HO656 hb; replace HO659 := ro_ HO659 hb; replace HO664 := ro_ HO664 hb; replace HO667 := ro_ HO667 hb; replace HO672 := ro_ HO672 hb; replace HO675 := ro_ HO675 hb; replace HO680 := ro_ HO680 hb; replace HO683 := ro_ HO683 hb; replace HO689 := ro_ HO689 hb; replace HO692 := ro_ HO692 hb; replace HO698 := ro_ HO698 hb; replace HO701 := ro_ HO701 hb; replace HO707 := ro_ HO707 hb; replace HO710 := ro_ HO710 hb; replace HO717 := ro_ HO717 hb; replace HO720 := ro_ HO720 hb; replace BK652 := bk_ BK652 hb; replace BK660 := bk_ BK660 hb; replace BK668 := bk_ BK668 hb; replace BK676 := bk_ BK676 hb; replace BK685 := bk_ BK685 hb; replace BK694 := bk_ BK694 hb; replace BK703 := bk_ BK703 hb; replace BK712 := bk_ BK712 hb; replace HB := jA.mk (jK (bb8_ HB GE652 GE660 GE668 GE676 GE685 GE694 GE703 GE712) hb); obtain ⟨hcz110_0, hcz110_1, hcz110_2, hfz110_0, hfz110_1, hfz110_2⟩ := bf3_ BK660; obtain ⟨hcz111_0, hcz111_1, hcz111_2, hfz111_0, hfz111_1, hfz111_2⟩ := bf3_ BK668) | (go_at_call 26; (with_reducible refine (vB.calls k t653 _ _ t654 _ _ t657 t661 _ _ t662 _ _ t665 t723 _ ?side1 ?side2 ?side3 ?side4 ?side5 ?side6 ?side7 ?side8 A18.out).mono ?_); (case side1 => exact cc_ (Kd.jC HO656.out).2.2); (case side2 => exact (Kd.jC HO656.out).2.1); (case side3 => exact cc_ (Kd.jC HO659.out).2.2); (case side4 => exact (Kd.jC HO659.out).2.1); (case side5 => exact cc_ (Kd.jC HO664.out).2.2); (case side6 => exact (Kd.jC HO664.out).2.1); (case side7 => exact cc_ (Kd.jC HO667.out).2.2); (case side8 => exact (Kd.jC HO667.out).2.1); rintro e w112 ⟨rfl, hb⟩; replace HO656 := ro_ HO656 hb; replace HO659 := ro_ HO659 hb; replace HO664 := ro_ HO664 hb; replace HO667 := ro_ HO667 hb; replace HO672 := ro_ HO672 hb; replace HO675 := ro_ HO675 hb; replace HO680 := ro_ HO680 hb; replace HO683 := ro_ HO683 hb; replace HO689 := ro_ HO689 hb; replace HO692 := ro_ HO692 hb; replace HO698 := ro_ HO698 hb; replace HO701 := ro_ HO701 hb; replace HO707 := ro_ HO707 hb; replace HO710 := ro_ HO710 hb; replace HO717 := ro_ HO717 hb; replace HO720 := ro_ HO720 hb; replace BK652 := bk_ BK652 hb; replace BK660 := bk_ BK660 hb; replace BK668 := bk_ BK668 hb; replace BK676 := bk_ BK676 hb; replace BK685 := bk_ BK685 hb; replace BK694 := bk_ BK694 hb; replace BK703 := bk_ BK703 hb; replace BK712 := bk_ BK712 hb; replace HB := jA.mk (jK (bb8_ HB GE652 GE660 GE668 GE676 GE685 GE694 GE703 GE712) hb); obtain ⟨hcz113_0, hcz113_1, hcz113_2, hfz113_0, hfz113_1, hfz113_2⟩ := bf3_ BK685; obtain ⟨hcz114_0, hcz114_1, hcz114_2, hfz114_0, hfz114_1, hfz114_2⟩ := bf3_ BK694) | (go_at_call 55; (with_reducible refine (vN.calls k t677 _ _ t678 _ _ t681 t686 _ _ t687 _ _ t690 t724 _ ?side1 ?side2 ?side3 ?side4 ?side5 ?side6 ?side7 ?side8 A20.out).mono ?_); (case side1 => exact cc_ (Kd.jC HO680.out).2.2); (case side2 => exact (Kd.jC HO680.out).2.1); (case side3 => exact cc_ (Kd.jC HO683.out).2.2); (case side4 => exact (Kd.jC HO683.out).2.1); (case side5 => exact cc_ (Kd.jC HO689.out).2.2); (case side6 => exact (Kd.jC HO689.out).2.1); (case side7 => exact cc_ (Kd.jC HO692.out).2.2); (case side8 => exact (Kd.jC HO692.out).2.1); rintro e w115 ⟨rfl, hb⟩; replace HO656 := ro_ HO656 hb; replace HO659 := ro_ HO659 hb; replace HO664 := ro_ HO664 hb; replace HO667 := ro_ HO667 hb; replace HO672 := ro_ HO672 hb; replace HO675 := ro_ HO675 hb; replace HO680 := ro_ HO680 hb; replace HO683 := ro_ HO683 hb; replace HO689 := ro_ HO689 hb; replace HO692 := ro_ HO692 hb; replace HO698 := ro_ HO698 hb; replace HO701 := ro_ HO701 hb; replace HO707 := ro_ HO707 hb; replace HO710 := ro_ HO710 hb; replace HO717 := ro_ HO717 hb; replace HO720 := ro_ HO720 hb; replace BK652 := bk_ BK652 hb; replace BK660 := bk_ BK660 hb; replace BK668 := bk_ BK668 hb; replace BK676 := bk_ BK676 hb; replace BK685 := bk_ BK685 hb; replace BK694 := bk_ BK694 hb; replace BK703 := bk_ BK703 hb; replace BK712 := bk_ BK712 hb; replace HB := jA.mk (jK (bb8_ HB GE652 GE660 GE668 GE676 GE685 GE694 GE703 GE712) hb); obtain ⟨hcz116_0, hcz116_1, hcz116_2, hfz116_0, hfz116_1, hfz116_2⟩ := bf3_ BK703; obtain ⟨hcz117_0, hcz117_1, hcz117_2, hfz117_0, hfz117_1, hfz117_2⟩ := bf3_ BK712) | (go_at_call 55; (with_reducible refine (vN.calls k t695 _ _ t696 _ _ t699 t704 _ _ t705 _ _ t708 t725 _ ?side1 ?side2 ?side3 ?side4 ?side5 ?side6 ?side7 ?side8 A22.out).mono ?_); (case side1 => exact cc_ (Kd.jC HO698.out).2.2); (case side2 => exact (Kd.jC HO698.out).2.1); (case side3 => exact cc_ (Kd.jC HO701.out).2.2); (case side4 => exact (Kd.jC HO701.out).2.1); (case side5 => exact cc_ (Kd.jC HO707.out).2.2); (case side6 => exact (Kd.jC HO707.out).2.1); (case side7 => exact cc_ (Kd.jC HO710.out).2.2); (case side8 => exact (Kd.jC HO710.out).2.1); rintro e w118 ⟨rfl, hb⟩; replace HO656 := ro_ HO656 hb; replace HO659 := ro_ HO659 hb; replace HO664 := ro_ HO664 hb; replace HO667 := ro_ HO667 hb; replace HO672 := ro_ HO672 hb; replace HO675 := ro_ HO675 hb; replace HO680 := ro_ HO680 hb; replace HO683 := ro_ HO683 hb; replace HO689 := ro_ HO689 hb; replace HO692 := ro_ HO692 hb; replace HO698 := ro_ HO698 hb; replace HO701 := ro_ HO701 hb; replace HO707 := ro_ HO707 hb; replace HO710 := ro_ HO710 hb; replace HO717 := ro_ HO717 hb; replace HO720 := ro_ HO720 hb; replace BK652 := bk_ BK652 hb; replace BK660 := bk_ BK660 hb; replace BK668 := bk_ BK668 hb; replace BK676 := bk_ BK676 hb; replace BK685 := bk_ BK685 hb; replace BK694 := bk_ BK694 hb; replace BK703 := bk_ BK703 hb; replace BK712 := bk_ BK712 hb; replace HB := jA.mk (jK (bb8_ HB GE652 GE660 GE668 GE676 GE685 GE694 GE703 GE712) hb)) | ((with_reducible refine je (N := 123) rfl ?_); refine vC (by first | rfl | kernel_rfl) ?_; dsimp only; (with_reducible refine jE (f := 28) rfl ?_); refine jh (some 123) rfl rfl Try.func28 kr_ rfl #[] rfl mt_ ?_; (with_reducible refine (zD.calls k  t726 _ A24.out).mono ?_); rintro e w119 ⟨rfl, hb⟩; refine ⟨_, rfl, ?_⟩; replace HO656 := ro_ HO656 hb; replace HO659 := ro_ HO659 hb; replace HO664 := ro_ HO664 hb; replace HO667 := ro_ HO667 hb; replace HO672 := ro_ HO672 hb; replace HO675 := ro_ HO675 hb; replace HO680 := ro_ HO680 hb; replace HO683 := ro_ HO683 hb; replace HO689 := ro_ HO689 hb; replace HO692 := ro_ HO692 hb; replace HO698 := ro_ HO698 hb; replace HO701 := ro_ HO701 hb; replace HO707 := ro_ HO707 hb; replace HO710 := ro_ HO710 hb; replace HO717 := ro_ HO717 hb; replace HO720 := ro_ HO720 hb; replace BK652 := bk_ BK652 hb; replace BK660 := bk_ BK660 hb; replace BK668 := bk_ BK668 hb; replace BK676 := bk_ BK676 hb; replace BK685 := bk_ BK685 hb; replace BK694 := bk_ BK694 hb; replace BK703 := bk_ BK703 hb; replace BK712 := bk_ BK712 hb; replace HB := jA.mk (jK (bb8_ HB GE652 GE660 GE668 GE676 GE685 GE694 GE703 GE712) hb)))
         go_ret
         exact ⟨by first | rfl | (rw [HRT_.out]; rfl) | (simp only [HRT_.out]; done) | exact of_decide_eq_true HRT_.out | (have h_ := HRT_.out; simp at h_ ⊢; exact h_) | (have h_ := HRT_.out; simp at h_ ⊢; omega) | (have h_ := HRT_.out; simp [h_]; done) | (simp [vv, vk] <;> rfl) | (simp [*, vv, vk] <;> rfl), (bb8_ HB GE652 GE660 GE668 GE676 GE685 GE694 GE703 GE712)⟩
        ·
         rw [if_neg c23] at H
         have c23b0 := beq_eq_false_iff_ne.mpr c23
         have c23b1 := bne_iff_ne.mpr c23
         exact absurd H (by simp)
       ·
        rw [if_neg c21] at H
        have c21b0 := beq_eq_false_iff_ne.mpr c21
        have c21b1 := bne_iff_ne.mpr c21
        exact absurd H (by simp)
      ·
       rw [if_neg c19] at H
       have c19b0 : ((t713 == 0) == t723) = false := by simpa using c19
       (try (have c19b1 : decide ((t713 == 0) = t723) = false := by simpa using c19))
       (try (have c19b2 : ((t713 == 0) == t723) = false := by simpa using c19))
       (try (have c19b3 : ¬ ((t713 == 0) = t723) := by simpa using c19))
       clear c19
       exact absurd H (by simp)
     ·
      rw [if_neg c17] at H
      have c17b0 := beq_eq_false_iff_ne.mpr c17
      have c17b1 := bne_iff_ne.mpr c17
      exact absurd H (by simp)
    ·
     rw [if_neg c15] at H
     have c15b0 := beq_eq_false_iff_ne.mpr c15
     have c15b1 := bne_iff_ne.mpr c15
     exact absurd H (by simp)
   ·
    rw [if_neg c14] at H
    have c14b0 := beq_eq_false_iff_ne.mpr c14
    have c14b1 := bne_iff_ne.mpr c14
    exact absurd H (by simp)
  ·
   rw [if_neg c13] at H
   have c13b0 := beq_eq_false_iff_ne.mpr c13
   have c13b1 := bne_iff_ne.mpr c13
   exact absurd H (by simp)
 ·
  rw [if_neg c12] at H
  have c12b0 := beq_eq_false_iff_ne.mpr c12
  have c12b1 := bne_iff_ne.mpr c12
  exact absurd H (by simp)

/-- What is told of a parameter. -/
def syzygylaw05_RatioOrder.wf68 (x : S68) : Prop := True ∧ (True ∧ True)
def syzygylaw05_RatioOrder.wf69 (x : S69) : Prop := (Lit.int .u32 x.f0).wf = true ∧ ((Lit.int .u32 x.f1).wf = true ∧ (Lit.int .u32 x.f2).wf = true)
def syzygylaw05_RatioOrder.wf71 (x : S71) : Prop := syzygylaw05_RatioOrder.wf68 x.f0 ∧ (syzygylaw05_RatioOrder.wf69 x.f1 ∧ syzygylaw05_RatioOrder.wf69 x.f2)
/-- THE ONE PURE STATEMENT of syzygylaw05_RatioOrder: yours. -/
def syzygylaw05_RatioOrder.Pure : Prop := ∀ (a0_0 : Bool) (a0_1 : Bool) (a0_2 : Bool) (a0_3 : Int) (a0_4 : Int) (a0_5 : Int) (a0_6 : Int) (a0_7 : Int) (a0_8 : Int), syzygylaw05_RatioOrder.wf71 (⟨(⟨a0_0, a0_1, a0_2⟩ : S68), (⟨a0_3, a0_4, a0_5⟩ : S69), (⟨a0_6, a0_7, a0_8⟩ : S69)⟩ : S71) → ∃ k, syzygylaw05_RatioOrder.f k a0_0 a0_1 a0_2 a0_3 a0_4 a0_5 a0_6 a0_7 a0_8 = some true
theorem syzygylaw05_RatioOrder.walk (P : syzygylaw05_RatioOrder.Pure) (a0_0 : Bool) (a0_1 : Bool) (a0_2 : Bool) (a0_3 : Int) (a0_4 : Int) (a0_5 : Int) (a0_6 : Int) (a0_7 : Int) (a0_8 : Int) (w : World)  (f0 : syzygylaw05_RatioOrder.wf71 (⟨(⟨a0_0, a0_1, a0_2⟩ : S68), (⟨a0_3, a0_4, a0_5⟩ : S69), (⟨a0_6, a0_7, a0_8⟩ : S69)⟩ : S71)) :
  Calls Try.prog 11 #[.agg #[.bool a0_0, .bool a0_1, .bool a0_2, .int .u32 a0_3, .int .u32 a0_4, .int .u32 a0_5, .int .u32 a0_6, .int .u32 a0_7, .int .u32 a0_8]] w fun e w' => e = .returned (.bool true) ∧ Below w.heap.size w w' := by
 obtain ⟨k, h⟩ := P a0_0 a0_1 a0_2 a0_3 a0_4 a0_5 a0_6 a0_7 a0_8 f0
 refine (syzygylaw05_RatioOrder.calls k a0_0 a0_1 a0_2 a0_3 a0_4 a0_5 a0_6 a0_7 a0_8 w  h).mono ?_
 rintro e w' ⟨rfl, hd⟩
 exact ⟨rfl, hd⟩

end Go.Proofs.Ytijgeonhbmgikaa.PORatioOrder
