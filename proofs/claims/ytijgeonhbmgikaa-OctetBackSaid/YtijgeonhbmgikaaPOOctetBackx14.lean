-- printed (pr.py)
import Derived.Test.YtijgeonhbmgikaaPOOctetBackx0
import Derived.Test.YtijgeonhbmgikaaPOOctetBackx1
import Derived.Test.YtijgeonhbmgikaaPOOctetBackx2
import Derived.Test.YtijgeonhbmgikaaPOOctetBackx3
import Derived.Test.YtijgeonhbmgikaaPOOctetBackx4
import Derived.Test.YtijgeonhbmgikaaPOOctetBackx13
namespace Go.Proofs.Ytijgeonhbmgikaa.POOctetBack
open Go.RowKit Go.Proofs.YtijgeonhbmgikaaN Go.Proofs.YtijgeonhbmgikaaW.PrintWords Go.Proofs.YtijgeonhbmgikaaW.PrintLast Go.Proofs.YtijgeonhbmgikaaW.PrintMore
attribute [local go_sem] zW zU qC qA zF zD zV zT
set_option maxHeartbeats 8000000
set_option maxRecDepth 100000
set_option linter.unusedVariables false
set_option linter.unusedSimpArgs false

/-! ### syzygylaw06_OctetBack: function 13 -/
mutual
def syzygylaw06_OctetBack.j0 : Nat → Int → List Int → ByteArray → ByteArray → Bool → Bool → List Int → List Int → Option (Bool)
 | 0, _, _, _, _, _, _, _, _ => none
 | k + 1, x0, x1, x3, x4, x39, x311000, x311001, x311002 => if x39 = true then ((jW.f k).bind fun t313 => (some t313)) else ((je.f k x0).bind fun t314 => (if t314.size + x4.size ≤ 9223372036854775807 then ((vR.f (t314 ++ x4)).bind fun bt315 => ((vJ.f k x3).bind fun t318 => (if t318.size + x4.size ≤ 9223372036854775807 then ((jm.f (t318 ++ x4)).bind fun bt319 => (if bt315.1 = x0 then (if bt315.2.1.toList = x4.toList then (if bt315.2.2 = 0 then (if bt319.1.toList = x3.toList then (if bt319.2.1.toList = x4.toList then (syzygylaw06_OctetBack.j1 k x1 x4 (bt319.2.2 != 0) x311000 x311001 x311002) else (syzygylaw06_OctetBack.j1 k x1 x4 true x311000 x311001 x311002)) else (syzygylaw06_OctetBack.j1 k x1 x4 true x311000 x311001 x311002)) else (syzygylaw06_OctetBack.j1 k x1 x4 true x311000 x311001 x311002)) else (syzygylaw06_OctetBack.j1 k x1 x4 true x311000 x311001 x311002)) else (syzygylaw06_OctetBack.j1 k x1 x4 true x311000 x311001 x311002))) else (none)))) else (none)))
def syzygylaw06_OctetBack.j1 : Nat → List Int → ByteArray → Bool → Bool → List Int → List Int → Option (Bool)
 | 0, _, _, _, _, _, _ => none
 | k + 1, x1, x4, x84, x311000, x311001, x311002 => if x84 = true then (some false) else ((jS.f k x1).bind fun bt322 => (if bt322.2 = 0 then (if bt322.1.size + x4.size ≤ 9223372036854775807 then ((jy.f k (bt322.1 ++ x4)).bind fun bt324 => (if bt324.2.2 = 0 then (if bt324.2.1.toList = x4.toList then ((jU.f k bt324.1 x1).bind fun t329 => (if t329 = true then (syzygylaw06_OctetBack.j2 k x4 x311000 x311001 x311002) else (some false))) else (some false)) else (some false))) else (none)) else (syzygylaw06_OctetBack.j2 k x4 x311000 x311001 x311002)))
def syzygylaw06_OctetBack.j2 : Nat → ByteArray → Bool → List Int → List Int → Option (Bool)
 | 0, _, _, _, _ => none
 | k + 1, x4, x311000, x311001, x311002 => (vO.f k x311000 x311001 x311002).bind fun bt330 => (if bt330.2 = 0 then (if bt330.1.size + x4.size ≤ 9223372036854775807 then ((vB.f k (bt330.1 ++ x4)).bind fun bt332 => (if bt332.2.2.2.2 = 0 then (if bt332.2.2.2.1.toList = x4.toList then ((jv.f k bt332.1 bt332.2.1 bt332.2.2.1 x311000 x311001 x311002).bind fun t342 => (some t342)) else (some false)) else (some false))) else (none)) else (if bt330.1.toList = ([] : List UInt8) then (some (bt330.2 == 1)) else (some false)))
end
def syzygylaw06_OctetBack.f (k : Nat) (a0 : Int) (l1 : List Int) (a2_0 : Bool) (l2_1 : List Int) (l2_2 : List Int) (a3 : ByteArray) (a4 : ByteArray) : Option (Bool) := (vI.f l1 a2_0 l2_1 l2_2 a3).bind fun t311 => (if t311 = true then (syzygylaw06_OctetBack.j0 k a0 l1 a3 a4 true a2_0 l2_1 l2_2) else (if (a4.size : Int) > 300 then (syzygylaw06_OctetBack.j0 k a0 l1 a3 a4 true a2_0 l2_1 l2_2) else ((jW.f k).bind fun t312 => (syzygylaw06_OctetBack.j0 k a0 l1 a3 a4 (!t312) a2_0 l2_1 l2_2))))
theorem syzygylaw06_OctetBack.vX : ∀ k, (∀ y0 y1 y2 y3 y4 y5 y6 y7, LeO (syzygylaw06_OctetBack.j0 k y0 y1 y2 y3 y4 y5 y6 y7) (syzygylaw06_OctetBack.j0 (k + 1) y0 y1 y2 y3 y4 y5 y6 y7)) ∧ (∀ y0 y1 y2 y3 y4 y5, LeO (syzygylaw06_OctetBack.j1 k y0 y1 y2 y3 y4 y5) (syzygylaw06_OctetBack.j1 (k + 1) y0 y1 y2 y3 y4 y5)) ∧ (∀ y0 y1 y2 y3, LeO (syzygylaw06_OctetBack.j2 k y0 y1 y2 y3) (syzygylaw06_OctetBack.j2 (k + 1) y0 y1 y2 y3))
 | 0 => ⟨fun _ _ _ _ _ _ _ _ r h => by simp [syzygylaw06_OctetBack.j0] at h, fun _ _ _ _ _ _ r h => by simp [syzygylaw06_OctetBack.j1] at h, fun _ _ _ _ r h => by simp [syzygylaw06_OctetBack.j2] at h⟩
 | k + 1 => by
  obtain ⟨ih0, ih1, ih2⟩ := syzygylaw06_OctetBack.vX k
  refine ⟨?_, ?_, ?_⟩ <;> (intros; first | unfold syzygylaw06_OctetBack.j0 | unfold syzygylaw06_OctetBack.j1 | unfold syzygylaw06_OctetBack.j2) <;> repeat' first
   | (with_reducible exact ih0 _ _ _ _ _ _ _ _)
   | (with_reducible exact ih1 _ _ _ _ _ _)
   | (with_reducible exact ih2 _ _ _ _)
   | (with_reducible exact jy.mono _ _)
   | (with_reducible exact vB.mono _ _)
   | (with_reducible exact je.mono _ _)
   | (with_reducible exact jS.mono _ _)
   | (with_reducible exact vO.mono _ _ _ _)
   | (with_reducible exact vJ.mono _ _)
   | (with_reducible exact jW.mono _)
   | (with_reducible exact jU.mono _ _ _)
   | (with_reducible exact jv.mono _ _ _ _ _ _ _)
   | (with_reducible exact LeO.refl _)
   | (with_reducible exact LeO.none _)
   | (with_reducible refine LeO.ite ?_ ?_)
   | (with_reducible refine LeO.bind ?_ (fun _ => ?_))
theorem syzygylaw06_OctetBack.mono : ∀ a0 a1 a2 a3 a4 a5 a6 k, LeO (syzygylaw06_OctetBack.f k a0 a1 a2 a3 a4 a5 a6) (syzygylaw06_OctetBack.f (k + 1) a0 a1 a2 a3 a4 a5 a6) := by
 intro a0 a1 a2 a3 a4 a5 a6 k
 obtain ⟨ih0, ih1, ih2⟩ := syzygylaw06_OctetBack.vX k
 unfold syzygylaw06_OctetBack.f
 repeat' first
   | (with_reducible exact ih0 _ _ _ _ _ _ _ _)
   | (with_reducible exact ih1 _ _ _ _ _ _)
   | (with_reducible exact ih2 _ _ _ _)
   | (with_reducible exact jy.mono _ _)
   | (with_reducible exact vB.mono _ _)
   | (with_reducible exact je.mono _ _)
   | (with_reducible exact jS.mono _ _)
   | (with_reducible exact vO.mono _ _ _ _)
   | (with_reducible exact vJ.mono _ _)
   | (with_reducible exact jW.mono _)
   | (with_reducible exact jU.mono _ _ _)
   | (with_reducible exact jv.mono _ _ _ _ _ _ _)
   | (with_reducible exact LeO.refl _)
   | (with_reducible exact LeO.none _)
   | (with_reducible refine LeO.ite ?_ ?_)
   | (with_reducible refine LeO.bind ?_ (fun _ => ?_))
theorem syzygylaw06_OctetBack.calls (k : Nat) (a0 : Int) (A1 : Option Addr) (c1 : Nat) (l1 : List Int) (a2_0 : Bool) (A2_1 : Option Addr) (c2_1 : Nat) (l2_1 : List Int) (A2_2 : Option Addr) (c2_2 : Nat) (l2_2 : List Int) (a3 : ByteArray) (a4 : ByteArray) (w : World) (hr1 : Kd.C (Kd.int .u64) w A1 l1.length l1) (hc1 : l1.length ≤ c1) (hr2_1 : Kd.C (Kd.int .u64) w A2_1 l2_1.length l2_1) (hc2_1 : l2_1.length ≤ c2_1) (hr2_2 : Kd.C (Kd.int .u64) w A2_2 l2_2.length l2_2) (hc2_2 : l2_2.length ≤ c2_2) (h : syzygylaw06_OctetBack.f k a0 l1 a2_0 l2_1 l2_2 a3 a4 = some true) :
  Calls Try.prog 13 #[.int .u64 a0, .slice A1 l1.length c1, .agg #[.bool a2_0, .slice A2_1 l2_1.length c2_1, .slice A2_2 l2_2.length c2_2], .string a3, .string a4] w fun e w' => e = .returned (.bool true) ∧ Below w.heap.size w w' := by
 have hu44 := Try.underlying44
 have HR1 := jA.mk hr1
 have HC1 := jA.mk hc1
 clear hr1 hc1
 have HR2_1 := jA.mk hr2_1
 have HC2_1 := jA.mk hc2_1
 clear hr2_1 hc2_1
 have HR2_2 := jA.mk hr2_2
 have HC2_2 := jA.mk hc2_2
 clear hr2_2 hc2_2
 have HB := jA.mk (Below.refl w.heap.size w)
 have H : ((vI.f l1 a2_0 l2_1 l2_2 a3).bind fun t311 => (if t311 = true then (syzygylaw06_OctetBack.j0 k a0 l1 a3 a4 true a2_0 l2_1 l2_2) else (if (a4.size : Int) > 300 then (syzygylaw06_OctetBack.j0 k a0 l1 a3 a4 true a2_0 l2_1 l2_2) else ((jW.f k).bind fun t312 => (syzygylaw06_OctetBack.j0 k a0 l1 a3 a4 (!t312) a2_0 l2_1 l2_2))))) = some true := h
 clear h
 have HC6 := jA.mk H
 clear H
 go_enter Try.func13, Try.ntmps13
 go_upto_region 1 with (first | ((with_reducible refine jl (N := 7) rfl ?_); (try (refine ji (by rfl) ?_; dsimp only)); refine vQ ?hg (N := 7) ?hd (cs := #[.bool a2_0, .slice A2_1 l2_1.length c2_1, .slice A2_2 l2_2.length c2_2]) (t := 44) ?hr ?_; (case hd => rfl); (case hg => rfl); (case hr => exact gs_); intro gb310 hg w7 hbox hb; have BK310 := jA.mk (hbox); have GW310 := jA.mk ((by rw [hg]; exact (jB (bb_ HB)) : w.heap.size ≤ gb310)); have GE310 := jA.mk ((by rw [hg]; exact (jB (bb_ HB)) : w.heap.size ≤ gb310)); replace HB := bs_ HB hb; clear hb hbox hg))
 (try simp only [Act.put, ss_])
 go_cut [39] (fun v39 wc => ∃ (kq : Nat) (x39_5 : Bool), v39 = .bool x39_5 ∧ jA (syzygylaw06_OctetBack.j0 kq a0 l1 a3 a4 x39_5 a2_0 l2_1 l2_2 = some true) ∧ jA (kq ≤ k) ∧ jA (wc.heap[gb310]? = some (.cells #[.bool a2_0, (.slice A2_1 l2_1.length c2_1), (.slice A2_2 l2_2.length c2_2)] 44 (0, 0))) ∧ jA (Below w.heap.size w wc))
 case first =>
  have H := HC6.out
  clear HC6
  replace H := ob_ H
  obtain ⟨t311, A80, H⟩ := H
  try dsimp only at H
  have A8 := jA.mk A80
  clear A80
  by_cases c9 : t311 = true
  ·
   subst c9
   have H1 : (syzygylaw06_OctetBack.j0 k a0 l1 a3 a4 true a2_0 l2_1 l2_2) = some true := by rw [if_pos rfl] at H; exact H
   clear H
   have H := H1
   clear H1
   have H' := jA.mk H
   clear H
   have hcz10_0 : w7.cell? ⟨gb310, 0, none⟩ = some (.bool a2_0) := (jD BK310.out 0).trans rfl
   have hcz10_1 : w7.cell? ⟨gb310, 1, none⟩ = some (.slice A2_1 l2_1.length c2_1) := (jD BK310.out 1).trans rfl
   have hcz10_2 : w7.cell? ⟨gb310, 2, none⟩ = some (.slice A2_2 l2_2.length c2_2) := (jD BK310.out 2).trans rfl
   have hfz10_0 := jJ BK310.out 0
   have hfz10_1 := jJ BK310.out 1
   have hfz10_2 := jJ BK310.out 2
   go_wp2_with (first | ((with_reducible refine jF (f := 29) rfl ?_); refine jf (some 30) rfl rfl Try.func29 kr_ rfl #[.slice A1 l1.length c1, .agg #[.bool a2_0, .slice A2_1 l2_1.length c2_1, .slice A2_2 l2_2.length c2_2], .string a3] rfl mt_ ?_; (with_reducible refine (vI.calls _ _ l1 a2_0 _ _ l2_1 _ _ l2_2 a3 true _ ?side1 ?side2 ?side3 ?side4 ?side5 ?side6 A8.out).mono ?_); (case side1 => exact cc_ (Kd.jT HR1.out HB.out)); (case side2 => exact HC1.out); (case side3 => exact cc_ (Kd.jT HR2_1.out HB.out)); (case side4 => exact HC2_1.out); (case side5 => exact cc_ (Kd.jT HR2_2.out HB.out)); (case side6 => exact HC2_2.out); rintro e w11 ⟨rfl, hb⟩; refine ⟨_, rfl, ?_⟩; replace BK310 := bk_ BK310 hb; replace HB := jA.mk (jO (bb1_ HB GE310) hb)))
   go_meet
   case rel => exact ⟨_, (true), sd_, H', ⟨by first | omega | exact Nat.le_refl _⟩, ⟨by (with_reducible repeat (first | refine zG ?_ _ | refine jk ?_ | refine jY ?_ _)); exact BK310.out⟩, ⟨(bb1_ HB GE310)⟩⟩
  ·
   replace c9 := Bool.eq_false_iff.mpr c9
   subst c9
   have H1 : (if (a4.size : Int) > 300 then (syzygylaw06_OctetBack.j0 k a0 l1 a3 a4 true a2_0 l2_1 l2_2) else ((jW.f k).bind fun t312 => (syzygylaw06_OctetBack.j0 k a0 l1 a3 a4 (!t312) a2_0 l2_1 l2_2))) = some true := by rw [if_neg (show ¬ (false = true) by decide)] at H; exact H
   clear H
   have H := H1
   clear H1
   by_cases c12 : (a4.size : Int) > 300
   ·
    rw [if_pos c12] at H
    have c12b0 := decide_eq_true c12
    have c12b1 : decide (300 < a4.size) = true := decide_eq_true (by omega)
    clear c12
    (first | rw [c12b0] | (simp only [vw, ze]; rw [c12b0]) | skip)
    have H' := jA.mk H
    clear H
    have hcz13_0 : w7.cell? ⟨gb310, 0, none⟩ = some (.bool a2_0) := (jD BK310.out 0).trans rfl
    have hcz13_1 : w7.cell? ⟨gb310, 1, none⟩ = some (.slice A2_1 l2_1.length c2_1) := (jD BK310.out 1).trans rfl
    have hcz13_2 : w7.cell? ⟨gb310, 2, none⟩ = some (.slice A2_2 l2_2.length c2_2) := (jD BK310.out 2).trans rfl
    have hfz13_0 := jJ BK310.out 0
    have hfz13_1 := jJ BK310.out 1
    have hfz13_2 := jJ BK310.out 2
    go_wp2_with (first | ((with_reducible refine jF (f := 29) rfl ?_); refine jf (some 30) rfl rfl Try.func29 kr_ rfl #[.slice A1 l1.length c1, .agg #[.bool a2_0, .slice A2_1 l2_1.length c2_1, .slice A2_2 l2_2.length c2_2], .string a3] rfl mt_ ?_; (with_reducible refine (vI.calls _ _ l1 a2_0 _ _ l2_1 _ _ l2_2 a3 false _ ?side1 ?side2 ?side3 ?side4 ?side5 ?side6 A8.out).mono ?_); (case side1 => exact cc_ (Kd.jT HR1.out HB.out)); (case side2 => exact HC1.out); (case side3 => exact cc_ (Kd.jT HR2_1.out HB.out)); (case side4 => exact HC2_1.out); (case side5 => exact cc_ (Kd.jT HR2_2.out HB.out)); (case side6 => exact HC2_2.out); rintro e w14 ⟨rfl, hb⟩; refine ⟨_, rfl, ?_⟩; replace BK310 := bk_ BK310 hb; replace HB := jA.mk (jO (bb1_ HB GE310) hb)))
    go_meet
    case rel => exact ⟨_, (true), sd_, H', ⟨by first | omega | exact Nat.le_refl _⟩, ⟨by (with_reducible repeat (first | refine zG ?_ _ | refine jk ?_ | refine jY ?_ _)); exact BK310.out⟩, ⟨(bb1_ HB GE310)⟩⟩
   ·
    rw [if_neg c12] at H
    have c12b0 := decide_eq_false c12
    have c12b1 : decide (300 < a4.size) = false := decide_eq_false (by omega)
    clear c12
    (first | rw [c12b0] | (simp only [vw, ze]; rw [c12b0]) | skip)
    replace H := ob_ H
    obtain ⟨t312, A150, H⟩ := H
    try dsimp only at H
    have A15 := jA.mk A150
    clear A150
    have H' := jA.mk H
    clear H
    have hcz16_0 : w7.cell? ⟨gb310, 0, none⟩ = some (.bool a2_0) := (jD BK310.out 0).trans rfl
    have hcz16_1 : w7.cell? ⟨gb310, 1, none⟩ = some (.slice A2_1 l2_1.length c2_1) := (jD BK310.out 1).trans rfl
    have hcz16_2 : w7.cell? ⟨gb310, 2, none⟩ = some (.slice A2_2 l2_2.length c2_2) := (jD BK310.out 2).trans rfl
    have hfz16_0 := jJ BK310.out 0
    have hfz16_1 := jJ BK310.out 1
    have hfz16_2 := jJ BK310.out 2
    go_wp2_with (first | ((with_reducible refine jF (f := 29) rfl ?_); refine jf (some 30) rfl rfl Try.func29 kr_ rfl #[.slice A1 l1.length c1, .agg #[.bool a2_0, .slice A2_1 l2_1.length c2_1, .slice A2_2 l2_2.length c2_2], .string a3] rfl mt_ ?_; (with_reducible refine (vI.calls _ _ l1 a2_0 _ _ l2_1 _ _ l2_2 a3 false _ ?side1 ?side2 ?side3 ?side4 ?side5 ?side6 A8.out).mono ?_); (case side1 => exact cc_ (Kd.jT HR1.out HB.out)); (case side2 => exact HC1.out); (case side3 => exact cc_ (Kd.jT HR2_1.out HB.out)); (case side4 => exact HC2_1.out); (case side5 => exact cc_ (Kd.jT HR2_2.out HB.out)); (case side6 => exact HC2_2.out); rintro e w17 ⟨rfl, hb⟩; refine ⟨_, rfl, ?_⟩; replace BK310 := bk_ BK310 hb; replace HB := jA.mk (jO (bb1_ HB GE310) hb)) | ((with_reducible refine jl (N := 37) rfl ?_); (try (refine ji (by rfl) ?_; dsimp only)); refine ji (by first | rfl | kernel_rfl) ?_; dsimp only; (with_reducible refine jF (f := 16) rfl ?_); refine jf (some 37) rfl rfl Try.func16 kr_ rfl #[] rfl mt_ ?_; (with_reducible refine (jW.calls k  t312 _ A15.out).mono ?_); rintro e w18 ⟨rfl, hb⟩; refine ⟨_, rfl, ?_⟩; replace BK310 := bk_ BK310 hb; replace HB := jA.mk (jO (bb1_ HB GE310) hb)))
    go_meet
    case rel => exact ⟨_, (!t312), sd_, H', ⟨by first | omega | exact Nat.le_refl _⟩, ⟨by (with_reducible repeat (first | refine zG ?_ _ | refine jk ?_ | refine jY ?_ _)); exact BK310.out⟩, ⟨(bb1_ HB GE310)⟩⟩
 case rest =>
  clear HC6
  try clear c1
  try clear c2
  try clear p2
  try clear c9
  try clear c12
  try clear c12b0
  try clear c12b1
  try clear c13
  try clear c16
  try clear hcz10_0
  try clear hcz10_1
  try clear hcz10_2
  try clear hcz13_0
  try clear hcz13_1
  try clear hcz13_2
  try clear hcz16_0
  try clear hcz16_1
  try clear hcz16_2
  try clear hfz10_0
  try clear hfz10_1
  try clear hfz10_2
  try clear hfz13_0
  try clear hfz13_1
  try clear hfz13_2
  try clear hfz16_0
  try clear hfz16_1
  try clear hfz16_2
  obtain ⟨kq, x39_5, rfl, HA, HJ5, BK310, HB⟩ := hcut
  cases kq with
  | zero => exact absurd HA.out (by simp [syzygylaw06_OctetBack.j0])
  | succ kj5 =>
   have H := HA.out
   clear HA
   simp only [syzygylaw06_OctetBack.j0] at H
   by_cases c19 : x39_5 = true
   ·
    subst c19
    have H1 : ((jW.f kj5).bind fun t313 => (some t313)) = some true := by rw [if_pos rfl] at H; exact H
    clear H
    have H := H1
    clear H1
    replace H := ob_ H
    obtain ⟨t313, A200, H⟩ := H
    try dsimp only at H
    have A20 := jA.mk A200
    clear A200
    have HRT_ := jA.mk (Option.some.inj H)
    clear H
    go_wp2_with (first | ((with_reducible refine jF (f := 16) rfl ?_); refine jf (some 40) rfl rfl Try.func16 kr_ rfl #[] rfl mt_ ?_; (with_reducible refine (jW.calls kj5  t313 _ A20.out).mono ?_); rintro e w21 ⟨rfl, hb⟩; refine ⟨_, rfl, ?_⟩; replace BK310 := bk_ BK310 hb; replace HB := jA.mk (jO (bb1_ HB GE310) hb)))
    go_ret
    exact ⟨by first | rfl | (rw [HRT_.out]; rfl) | (simp only [HRT_.out]; done) | exact of_decide_eq_true HRT_.out | (have h_ := HRT_.out; simp at h_ ⊢; exact h_) | (have h_ := HRT_.out; simp at h_ ⊢; omega) | (have h_ := HRT_.out; simp [h_]; done) | (simp [vF, vE] <;> rfl) | (simp [*, vF, vE] <;> rfl), (bb1_ HB GE310)⟩
   ·
    replace c19 := Bool.eq_false_iff.mpr c19
    subst c19
    have H1 : ((je.f kj5 a0).bind fun t314 => (if t314.size + a4.size ≤ 9223372036854775807 then ((vR.f (t314 ++ a4)).bind fun bt315 => ((vJ.f kj5 a3).bind fun t318 => (if t318.size + a4.size ≤ 9223372036854775807 then ((jm.f (t318 ++ a4)).bind fun bt319 => (if bt315.1 = a0 then (if bt315.2.1.toList = a4.toList then (if bt315.2.2 = 0 then (if bt319.1.toList = a3.toList then (if bt319.2.1.toList = a4.toList then (syzygylaw06_OctetBack.j1 kj5 l1 a4 (bt319.2.2 != 0) a2_0 l2_1 l2_2) else (syzygylaw06_OctetBack.j1 kj5 l1 a4 true a2_0 l2_1 l2_2)) else (syzygylaw06_OctetBack.j1 kj5 l1 a4 true a2_0 l2_1 l2_2)) else (syzygylaw06_OctetBack.j1 kj5 l1 a4 true a2_0 l2_1 l2_2)) else (syzygylaw06_OctetBack.j1 kj5 l1 a4 true a2_0 l2_1 l2_2)) else (syzygylaw06_OctetBack.j1 kj5 l1 a4 true a2_0 l2_1 l2_2))) else (none)))) else (none))) = some true := by rw [if_neg (show ¬ (false = true) by decide)] at H; exact H
    clear H
    have H := H1
    clear H1
    replace H := ob_ H
    obtain ⟨t314, A220, H⟩ := H
    try dsimp only at H
    have A22 := jA.mk A220
    clear A220
    by_cases c23 : t314.size + a4.size ≤ 9223372036854775807
    ·
     rw [if_pos c23] at H
     have c23b0 := eq_true c23
     have c23b1 := decide_eq_true c23
     try have c23b2 : (9223372036854775807 < t314.size + a4.size) = False := eq_false (Nat.not_lt.2 c23)
     replace H := ob_ H
     obtain ⟨⟨t315, t316, t317⟩, A240, H⟩ := H
     try dsimp only at H
     have A24 := jA.mk A240
     clear A240
     replace H := ob_ H
     obtain ⟨t318, A250, H⟩ := H
     try dsimp only at H
     have A25 := jA.mk A250
     clear A250
     by_cases c26 : t318.size + a4.size ≤ 9223372036854775807
     ·
      rw [if_pos c26] at H
      have c26b0 := eq_true c26
      have c26b1 := decide_eq_true c26
      try have c26b2 : (9223372036854775807 < t318.size + a4.size) = False := eq_false (Nat.not_lt.2 c26)
      replace H := ob_ H
      obtain ⟨⟨t319, t320, t321⟩, A270, H⟩ := H
      try dsimp only at H
      have A27 := jA.mk A270
      clear A270
      have HC28 := jA.mk H
      clear H
      go_upto_region 5 with (first | ((with_reducible refine jF (f := 15) rfl ?_); refine jf (some 43) rfl rfl Try.func15 kr_ rfl #[.int .u64 a0] rfl mt_ ?_; (with_reducible refine (je.calls kj5 a0 t314 _ A22.out).mono ?_); rintro e w29 ⟨rfl, hb⟩; refine ⟨_, rfl, ?_⟩; replace BK310 := bk_ BK310 hb; replace HB := jA.mk (jO (bb1_ HB GE310) hb)) | ((with_reducible refine jF (f := 18) rfl ?_); refine jf (some 46) rfl rfl Try.func18 kr_ rfl #[.string (t314 ++ a4)] rfl mt_ ?_; (with_reducible refine (vR.calls (t314 ++ a4) t315 t316 t317 _ A24.out).mono ?_); rintro e w30 ⟨rfl, hb⟩; refine ⟨_, rfl, ?_⟩; replace BK310 := bk_ BK310 hb; replace HB := jA.mk (jO (bb1_ HB GE310) hb)) | ((with_reducible refine jF (f := 17) rfl ?_); refine jf (some 52) rfl rfl Try.func17 kr_ rfl #[.string a3] rfl mt_ ?_; (with_reducible refine (vJ.calls kj5 a3 t318 _ A25.out).mono ?_); rintro e w31 ⟨rfl, hb⟩; refine ⟨_, rfl, ?_⟩; replace BK310 := bk_ BK310 hb; replace HB := jA.mk (jO (bb1_ HB GE310) hb)) | ((with_reducible refine jF (f := 19) rfl ?_); refine jf (some 55) rfl rfl Try.func19 kr_ rfl #[.string (t318 ++ a4)] rfl mt_ ?_; (with_reducible refine (jm.calls (t318 ++ a4) t319 t320 t321 _ A27.out).mono ?_); rintro e w32 ⟨rfl, hb⟩; refine ⟨_, rfl, ?_⟩; replace BK310 := bk_ BK310 hb; replace HB := jA.mk (jO (bb1_ HB GE310) hb)))
      (try simp only [Act.put, ss_])
      go_cut [84] (fun v84 wc => ∃ (kq : Nat) (x84_27 : Bool), v84 = .bool x84_27 ∧ jA (syzygylaw06_OctetBack.j1 kq l1 a4 x84_27 a2_0 l2_1 l2_2 = some true) ∧ jA (kq ≤ kj5) ∧ jA (wc.heap[gb310]? = some (.cells #[.bool a2_0, (.slice A2_1 l2_1.length c2_1), (.slice A2_2 l2_2.length c2_2)] 44 (0, 0))) ∧ jA (Below w.heap.size w wc))
      case first =>
       have H := HC28.out
       clear HC28
       by_cases c33 : t315 = a0
       ·
        rw [if_pos c33] at H
        have c33b0 := beq_iff_eq.mpr c33
        have c33b1 := bne_eq_false_iff_eq.mpr c33
        clear c33
        (first | rw [c33b0] | (simp only [vw, ze]; rw [c33b0]) | skip)
        by_cases c34 : t316.toList = a4.toList
        ·
         rw [if_pos c34] at H
         have c34b0 := beq_iff_eq.mpr c34
         have c34b1 := bne_eq_false_iff_eq.mpr c34
         clear c34
         by_cases c35 : t317 = 0
         ·
          rw [if_pos c35] at H
          have c35b0 := beq_iff_eq.mpr c35
          have c35b1 := bne_eq_false_iff_eq.mpr c35
          clear c35
          by_cases c36 : t319.toList = a3.toList
          ·
           rw [if_pos c36] at H
           have c36b0 := beq_iff_eq.mpr c36
           have c36b1 := bne_eq_false_iff_eq.mpr c36
           clear c36
           by_cases c37 : t320.toList = a4.toList
           ·
            rw [if_pos c37] at H
            have c37b0 := beq_iff_eq.mpr c37
            have c37b1 := bne_eq_false_iff_eq.mpr c37
            clear c37
            have H' := jA.mk H
            clear H
            go_wp2
            go_meet
            case rel => exact ⟨_, ((t321 != 0)), sd_, H', ⟨by have := HJ5.out; first | omega | exact Nat.le_refl _⟩, ⟨by (with_reducible repeat (first | refine zG ?_ _ | refine jk ?_ | refine jY ?_ _)); exact BK310.out⟩, ⟨(bb1_ HB GE310)⟩⟩
           ·
            rw [if_neg c37] at H
            have c37b0 := beq_eq_false_iff_ne.mpr c37
            have c37b1 := bne_iff_ne.mpr c37
            have H' := jA.mk H
            clear H
            go_wp2
            go_meet
            case rel => exact ⟨_, (true), sd_, H', ⟨by have := HJ5.out; first | omega | exact Nat.le_refl _⟩, ⟨by (with_reducible repeat (first | refine zG ?_ _ | refine jk ?_ | refine jY ?_ _)); exact BK310.out⟩, ⟨(bb1_ HB GE310)⟩⟩
          ·
           rw [if_neg c36] at H
           have c36b0 := beq_eq_false_iff_ne.mpr c36
           have c36b1 := bne_iff_ne.mpr c36
           have H' := jA.mk H
           clear H
           go_wp2
           go_meet
           case rel => exact ⟨_, (true), sd_, H', ⟨by have := HJ5.out; first | omega | exact Nat.le_refl _⟩, ⟨by (with_reducible repeat (first | refine zG ?_ _ | refine jk ?_ | refine jY ?_ _)); exact BK310.out⟩, ⟨(bb1_ HB GE310)⟩⟩
         ·
          rw [if_neg c35] at H
          have c35b0 := beq_eq_false_iff_ne.mpr c35
          have c35b1 := bne_iff_ne.mpr c35
          have H' := jA.mk H
          clear H
          go_wp2
          go_meet
          case rel => exact ⟨_, (true), sd_, H', ⟨by have := HJ5.out; first | omega | exact Nat.le_refl _⟩, ⟨by (with_reducible repeat (first | refine zG ?_ _ | refine jk ?_ | refine jY ?_ _)); exact BK310.out⟩, ⟨(bb1_ HB GE310)⟩⟩
        ·
         rw [if_neg c34] at H
         have c34b0 := beq_eq_false_iff_ne.mpr c34
         have c34b1 := bne_iff_ne.mpr c34
         have H' := jA.mk H
         clear H
         go_wp2
         go_meet
         case rel => exact ⟨_, (true), sd_, H', ⟨by have := HJ5.out; first | omega | exact Nat.le_refl _⟩, ⟨by (with_reducible repeat (first | refine zG ?_ _ | refine jk ?_ | refine jY ?_ _)); exact BK310.out⟩, ⟨(bb1_ HB GE310)⟩⟩
       ·
        rw [if_neg c33] at H
        have c33b0 := beq_eq_false_iff_ne.mpr c33
        have c33b1 := bne_iff_ne.mpr c33
        (first | rw [c33b0] | (simp only [vw, ze]; rw [c33b0]) | skip)
        have H' := jA.mk H
        clear H
        go_wp2
        go_meet
        case rel => exact ⟨_, (true), sd_, H', ⟨by have := HJ5.out; first | omega | exact Nat.le_refl _⟩, ⟨by (with_reducible repeat (first | refine zG ?_ _ | refine jk ?_ | refine jY ?_ _)); exact BK310.out⟩, ⟨(bb1_ HB GE310)⟩⟩
      case rest =>
       clear HC28
       try clear c1
       try clear c2
       try clear p2
       try clear c3
       try clear c9
       try clear c12
       try clear c12b0
       try clear c12b1
       try clear c13
       try clear c15
       try clear c16
       try clear c17
       try clear c18
       try clear c19
       try clear c23
       try clear c23b0
       try clear c23b1
       try clear c23b2
       try clear c26
       try clear c26b0
       try clear c26b1
       try clear c26b2
       try clear c29
       try clear c33
       try clear c33b0
       try clear c33b1
       try clear c34
       try clear c34b0
       try clear c34b1
       try clear c35
       try clear c35b0
       try clear c35b1
       try clear c36
       try clear c36b0
       try clear c36b1
       try clear c37
       try clear c37b0
       try clear c37b1
       try clear hcz10_0
       try clear hcz10_1
       try clear hcz10_2
       try clear hcz13_0
       try clear hcz13_1
       try clear hcz13_2
       try clear hcz16_0
       try clear hcz16_1
       try clear hcz16_2
       try clear hfz10_0
       try clear hfz10_1
       try clear hfz10_2
       try clear hfz13_0
       try clear hfz13_1
       try clear hfz13_2
       try clear hfz16_0
       try clear hfz16_1
       try clear hfz16_2
       try clear p2
       obtain ⟨kq, x84_27, rfl, HA, HJ27, BK310, HB⟩ := hcut
       cases kq with
       | zero => exact absurd HA.out (by simp [syzygylaw06_OctetBack.j1])
       | succ kj27 =>
        have H := HA.out
        clear HA
        simp only [syzygylaw06_OctetBack.j1] at H
        by_cases c38 : x84_27 = true
        ·
         subst c38
         have H1 : (some false) = some true := by rw [if_pos rfl] at H; exact H
         clear H
         have H := H1
         clear H1
         exact absurd H (by simp)
        ·
         replace c38 := Bool.eq_false_iff.mpr c38
         subst c38
         have H1 : ((jS.f kj27 l1).bind fun bt322 => (if bt322.2 = 0 then (if bt322.1.size + a4.size ≤ 9223372036854775807 then ((jy.f kj27 (bt322.1 ++ a4)).bind fun bt324 => (if bt324.2.2 = 0 then (if bt324.2.1.toList = a4.toList then ((jU.f kj27 bt324.1 l1).bind fun t329 => (if t329 = true then (syzygylaw06_OctetBack.j2 kj27 a4 a2_0 l2_1 l2_2) else (some false))) else (some false)) else (some false))) else (none)) else (syzygylaw06_OctetBack.j2 kj27 a4 a2_0 l2_1 l2_2))) = some true := by rw [if_neg (show ¬ (false = true) by decide)] at H; exact H
         clear H
         have H := H1
         clear H1
         replace H := ob_ H
         obtain ⟨⟨t322, t323⟩, A390, H⟩ := H
         try dsimp only at H
         have A39 := jA.mk A390
         clear A390
         have HC40 := jA.mk H
         clear H
         go_upto_if 91 with (first | ((with_reducible refine jF (f := 20) rfl ?_); refine jf (some 87) rfl rfl Try.func20 kr_ rfl #[.slice A1 l1.length c1] rfl mt_ ?_; (with_reducible refine (jS.calls kj27 _ _ l1 t322 t323 _ ?side1 ?side2 A39.out).mono ?_); (case side1 => exact cc_ (Kd.jT HR1.out HB.out)); (case side2 => exact HC1.out); rintro e w41 ⟨rfl, hb⟩; refine ⟨_, rfl, ?_⟩; replace BK310 := bk_ BK310 hb; replace HB := jA.mk (jO (bb1_ HB GE310) hb)))
         (try simp only [Act.put, ss_])
         go_cut [] (fun wc => ∃ (kq : Nat), jA (syzygylaw06_OctetBack.j2 kq a4 a2_0 l2_1 l2_2 = some true) ∧ jA (kq ≤ kj27) ∧ jA (wc.heap[gb310]? = some (.cells #[.bool a2_0, (.slice A2_1 l2_1.length c2_1), (.slice A2_2 l2_2.length c2_2)] 44 (0, 0))) ∧ jA (Below w.heap.size w wc))
         case first =>
          have H := HC40.out
          clear HC40
          by_cases c42 : t323 = 0
          ·
           rw [if_pos c42] at H
           have c42b0 := beq_iff_eq.mpr c42
           have c42b1 := bne_eq_false_iff_eq.mpr c42
           clear c42
           (first | rw [c42b0] | (simp only [vw, ze]; rw [c42b0]) | skip)
           by_cases c43 : t322.size + a4.size ≤ 9223372036854775807
           ·
            rw [if_pos c43] at H
            have c43b0 := eq_true c43
            have c43b1 := decide_eq_true c43
            try have c43b2 : (9223372036854775807 < t322.size + a4.size) = False := eq_false (Nat.not_lt.2 c43)
            replace H := ob_ H
            obtain ⟨⟨t324, t325, t326⟩, A440, H⟩ := H
            try dsimp only at H
            have A44 := jA.mk A440
            clear A440
            by_cases c45 : t326 = 0
            ·
             rw [if_pos c45] at H
             have c45b0 := beq_iff_eq.mpr c45
             have c45b1 := bne_eq_false_iff_eq.mpr c45
             clear c45
             by_cases c46 : t325.toList = a4.toList
             ·
              rw [if_pos c46] at H
              have c46b0 := beq_iff_eq.mpr c46
              have c46b1 := bne_eq_false_iff_eq.mpr c46
              clear c46
              replace H := ob_ H
              obtain ⟨t329, A470, H⟩ := H
              try dsimp only at H
              have A47 := jA.mk A470
              clear A470
              by_cases c48 : t329 = true
              ·
               subst c48
               have H1 : (syzygylaw06_OctetBack.j2 kj27 a4 a2_0 l2_1 l2_2) = some true := by rw [if_pos rfl] at H; exact H
               clear H
               have H := H1
               clear H1
               have H' := jA.mk H
               clear H
               go_wp2_with (first | ((with_reducible refine jF (f := 22) rfl ?_); refine jf (some 96) rfl rfl Try.func22 kr_ rfl #[.string (t322 ++ a4)] rfl mt_ ?_; (with_reducible refine (jy.calls kj27 (t322 ++ a4) t324 t325 t326 _ A44.out).mono ?_); rintro e w49 ⟨v327, rfl, ho0, hb⟩; refine ⟨_, rfl, ?_⟩; have HO328 := jA.mk (Kd.jr ho0 (jB (bb1_ HB GE310))); replace BK310 := bk_ BK310 hb; replace HB := jA.mk (jO (bb1_ HB GE310) hb); obtain ⟨Ao50, co50, eo50⟩ := Kd.vC HO328.out; subst eo50) | ((with_reducible refine jl (N := 110) rfl ?_); (try (refine ji (by rfl) ?_; dsimp only)); refine ji (by first | rfl | kernel_rfl) ?_; dsimp only; (with_reducible refine jF (f := 47) rfl ?_); refine jf (some 110) rfl rfl Try.func47 kr_ rfl #[.slice Ao50 t324.length co50, .slice A1 l1.length c1] rfl mt_ ?_; (with_reducible refine (jU.calls kj27 _ _ t324 _ _ l1 true _ ?side1 ?side2 ?side3 ?side4 A47.out).mono ?_); (case side1 => exact cc_ (Kd.jP HO328.out).2.2); (case side2 => exact (Kd.jP HO328.out).2.1); (case side3 => exact cc_ (Kd.jT HR1.out HB.out)); (case side4 => exact HC1.out); rintro e w' ⟨rfl, ⟨nd, rfl⟩⟩; refine ⟨_, rfl, ?_⟩))
               go_meet
               case rel => exact ⟨_, H', ⟨by have := HJ5.out; have := HJ27.out; first | omega | exact Nat.le_refl _⟩, ⟨by (with_reducible repeat (first | refine zG ?_ _ | refine jk ?_ | refine jY ?_ _)); exact BK310.out⟩, ⟨(bb1_ HB GE310)⟩⟩
              ·
               replace c48 := Bool.eq_false_iff.mpr c48
               subst c48
               have H1 : (some false) = some true := by rw [if_neg (show ¬ (false = true) by decide)] at H; exact H
               clear H
               have H := H1
               clear H1
               exact absurd H (by simp)
             ·
              rw [if_neg c46] at H
              have c46b0 := beq_eq_false_iff_ne.mpr c46
              have c46b1 := bne_iff_ne.mpr c46
              exact absurd H (by simp)
            ·
             rw [if_neg c45] at H
             have c45b0 := beq_eq_false_iff_ne.mpr c45
             have c45b1 := bne_iff_ne.mpr c45
             exact absurd H (by simp)
           ·
            rw [if_neg c43] at H
            exact absurd H (by simp)
          ·
           rw [if_neg c42] at H
           have c42b0 := beq_eq_false_iff_ne.mpr c42
           have c42b1 := bne_iff_ne.mpr c42
           (first | rw [c42b0] | (simp only [vw, ze]; rw [c42b0]) | skip)
           have H' := jA.mk H
           clear H
           go_wp2
           go_meet
           case rel => exact ⟨_, H', ⟨by have := HJ5.out; have := HJ27.out; first | omega | exact Nat.le_refl _⟩, ⟨by (with_reducible repeat (first | refine zG ?_ _ | refine jk ?_ | refine jY ?_ _)); exact BK310.out⟩, ⟨(bb1_ HB GE310)⟩⟩
         case rest =>
          clear HC40
          try clear c1
          try clear c2
          try clear p2
          try clear c3
          try clear c4
          try clear c9
          try clear c12
          try clear c12b0
          try clear c12b1
          try clear c13
          try clear c15
          try clear c16
          try clear c17
          try clear c18
          try clear c19
          try clear c20
          try clear c22
          try clear c23
          try clear c23b0
          try clear c23b1
          try clear c23b2
          try clear c26
          try clear c26b0
          try clear c26b1
          try clear c26b2
          try clear c29
          try clear c33
          try clear c33b0
          try clear c33b1
          try clear c34
          try clear c34b0
          try clear c34b1
          try clear c35
          try clear c35b0
          try clear c35b1
          try clear c36
          try clear c36b0
          try clear c36b1
          try clear c37
          try clear c37b0
          try clear c37b1
          try clear c38
          try clear c42
          try clear c42b0
          try clear c42b1
          try clear c43
          try clear c43b0
          try clear c43b1
          try clear c43b2
          try clear c45
          try clear c45b0
          try clear c45b1
          try clear c46
          try clear c46b0
          try clear c46b1
          try clear c47
          try clear c48
          try clear hcz10_0
          try clear hcz10_1
          try clear hcz10_2
          try clear hcz13_0
          try clear hcz13_1
          try clear hcz13_2
          try clear hcz16_0
          try clear hcz16_1
          try clear hcz16_2
          try clear hfz10_0
          try clear hfz10_1
          try clear hfz10_2
          try clear hfz13_0
          try clear hfz13_1
          try clear hfz13_2
          try clear hfz16_0
          try clear hfz16_1
          try clear hfz16_2
          try clear p2
          obtain ⟨kq, HA, HJ39, BK310, HB⟩ := hcut
          cases kq with
          | zero => exact absurd HA.out (by simp [syzygylaw06_OctetBack.j2])
          | succ kj39 =>
           have H := HA.out
           clear HA
           simp only [syzygylaw06_OctetBack.j2] at H
           replace H := ob_ H
           obtain ⟨⟨t330, t331⟩, A510, H⟩ := H
           try dsimp only at H
           have A51 := jA.mk A510
           clear A510
           by_cases c52 : t331 = 0
           ·
            rw [if_pos c52] at H
            have c52b0 := beq_iff_eq.mpr c52
            have c52b1 := bne_eq_false_iff_eq.mpr c52
            clear c52
            by_cases c53 : t330.size + a4.size ≤ 9223372036854775807
            ·
             rw [if_pos c53] at H
             have c53b0 := eq_true c53
             have c53b1 := decide_eq_true c53
             try have c53b2 : (9223372036854775807 < t330.size + a4.size) = False := eq_false (Nat.not_lt.2 c53)
             replace H := ob_ H
             obtain ⟨⟨t332, t333, t336, t339, t340⟩, A540, H⟩ := H
             try dsimp only at H
             have A54 := jA.mk A540
             clear A540
             by_cases c55 : t340 = 0
             ·
              rw [if_pos c55] at H
              have c55b0 := beq_iff_eq.mpr c55
              have c55b1 := bne_eq_false_iff_eq.mpr c55
              clear c55
              by_cases c56 : t339.toList = a4.toList
              ·
               rw [if_pos c56] at H
               have c56b0 := beq_iff_eq.mpr c56
               have c56b1 := bne_eq_false_iff_eq.mpr c56
               clear c56
               replace H := ob_ H
               obtain ⟨t342, A570, H⟩ := H
               try dsimp only at H
               have A57 := jA.mk A570
               clear A570
               have HRT_ := jA.mk (Option.some.inj H)
               clear H
               have hcz58_0 : wc.cell? ⟨gb310, 0, none⟩ = some (.bool a2_0) := (jD BK310.out 0).trans rfl
               have hcz58_1 : wc.cell? ⟨gb310, 1, none⟩ = some (.slice A2_1 l2_1.length c2_1) := (jD BK310.out 1).trans rfl
               have hcz58_2 : wc.cell? ⟨gb310, 2, none⟩ = some (.slice A2_2 l2_2.length c2_2) := (jD BK310.out 2).trans rfl
               have hfz58_0 := jJ BK310.out 0
               have hfz58_1 := jJ BK310.out 1
               have hfz58_2 := jJ BK310.out 2
               go_wp2_with (first | ((with_reducible refine jF (f := 31) rfl ?_); refine jf (some 115) rfl rfl Try.func31 kr_ rfl #[.agg #[.bool a2_0, .slice A2_1 l2_1.length c2_1, .slice A2_2 l2_2.length c2_2]] rfl mt_ ?_; (with_reducible refine (vO.calls kj39 a2_0 _ _ l2_1 _ _ l2_2 t330 t331 _ ?side1 ?side2 ?side3 ?side4 A51.out).mono ?_); (case side1 => exact cc_ (Kd.jT HR2_1.out HB.out)); (case side2 => exact HC2_1.out); (case side3 => exact cc_ (Kd.jT HR2_2.out HB.out)); (case side4 => exact HC2_2.out); rintro e w59 ⟨rfl, hb⟩; refine ⟨_, rfl, ?_⟩; replace BK310 := bk_ BK310 hb; replace HB := jA.mk (jO (bb1_ HB GE310) hb)) | ((with_reducible refine jF (f := 44) rfl ?_); refine jf (some 130) rfl rfl Try.func44 kr_ rfl #[.string (t330 ++ a4)] rfl mt_ ?_; (with_reducible refine (vB.calls kj39 (t330 ++ a4) t332 t333 t336 t339 t340 _ A54.out).mono ?_); rintro e w60 ⟨v334, v337, rfl, ho0, ho1, hb⟩; refine ⟨_, rfl, ?_⟩; have HO335 := jA.mk (Kd.jr ho0 (jB (bb1_ HB GE310))); have HO338 := jA.mk (Kd.jr ho1 (jB (bb1_ HB GE310))); replace BK310 := bk_ BK310 hb; replace HB := jA.mk (jO (bb1_ HB GE310) hb)) | ((with_reducible refine jl (N := 24) rfl ?_); (try (refine ji (by rfl) ?_; dsimp only)); refine vQ ?hg (N := 24) ?hd (cs := #[.bool false, .slice none 0 0, .slice none 0 0]) (t := 44) ?hr ?_; (case hd => rfl); (case hg => rfl); (case hr => exact gs_); intro gb341 hg w61 hbox hb; replace HO335 := ro_ HO335 hb; replace HO338 := ro_ HO338 hb; have BK341 := jA.mk (hbox); have GW341 := jA.mk ((by rw [hg]; exact (jB (bb1_ HB GE310)) : w.heap.size ≤ gb341)); have GE341 := jA.mk ((by rw [hg]; exact (jB (bb1_ HB GE310)) : w.heap.size ≤ gb341)); replace HB := jA.mk (jO (bb1_ HB GE310) hb); have NB310_341 := jA.mk ((by rw [hg]; exact Nat.ne_of_lt (za (g := gb310) (o := .cells #[.bool a2_0, .slice A2_1 l2_1.length c2_1, .slice A2_2 l2_2.length c2_2] 44 (0, 0)) (kb_ BK310)) : gb310 ≠ gb341)); have NB341_310 := jA.mk ((by rw [hg]; exact Nat.ne_of_gt (za (g := gb310) (o := .cells #[.bool a2_0, .slice A2_1 l2_1.length c2_1, .slice A2_2 l2_2.length c2_2] 44 (0, 0)) (kb_ BK310)) : gb341 ≠ gb310)); replace BK310 := bk_ BK310 hb; clear hb hbox hg; have hnb62 := NB341_310.out; have hnc62 := NB310_341.out; obtain ⟨hcz63_0, hcz63_1, hcz63_2, hfz63_0, hfz63_1, hfz63_2⟩ := bf3_ BK341; obtain ⟨Ao64, co64, eo64⟩ := Kd.vC HO335.out; subst eo64; obtain ⟨Ao65, co65, eo65⟩ := Kd.vC HO338.out; subst eo65; obtain ⟨hcz66_0, hcz66_1, hcz66_2, hfz66_0, hfz66_1, hfz66_2⟩ := bf3_ BK310) | (go_at_call 26; (with_reducible refine (jv.calls kj39 t332 _ _ t333 _ _ t336 a2_0 _ _ l2_1 _ _ l2_2 t342 _ ?side1 ?side2 ?side3 ?side4 ?side5 ?side6 ?side7 ?side8 A57.out).mono ?_); (case side1 => refine (Kd.jP (e := 22) (base := w.heap.size) (ok := fun k_ => some k_ ≠ (.slice Ao65 t336.length co65 : Value).ownBlock) (n := t333.length) (c := co64) ?_).2.2; exact (rg3_ HO335 BK341)); (case side2 => exact (Kd.jP HO335.out).2.1); (case side3 => refine (Kd.jP (e := 22) (base := w.heap.size) (ok := fun k_ => some k_ ≠ (.slice Ao64 t333.length co64 : Value).ownBlock) (n := t336.length) (c := co65) ?_).2.2; exact (rg3_ HO338 BK341)); (case side4 => exact (Kd.jP HO338.out).2.1); (case side5 => exact Kd.jT HR2_1.out (bb2_ HB GE310 GE341)); (case side6 => exact HC2_1.out); (case side7 => exact Kd.jT HR2_2.out (bb2_ HB GE310 GE341)); (case side8 => exact HC2_2.out); rintro e w67 ⟨rfl, hb⟩; replace HO335 := jA.mk (Kd.jAH (rg3_ HO335 BK341) hb); replace HO338 := jA.mk (Kd.jAH (rg3_ HO338 BK341) hb); replace BK310 := jA.mk (vH (g := gb310) (o := .cells #[.bool a2_0, .slice A2_1 l2_1.length c2_1, .slice A2_2 l2_2.length c2_2] 44 (0, 0)) (by refine pk_ ?_; refine jL ?_ NB310_341.out _; refine pk_ ?_; refine jL ?_ NB310_341.out _; refine pk_ ?_; refine jL ?_ NB310_341.out _; refine pk_ ?_; exact BK310.out) hb); replace BK341 := jA.mk (vH (g := gb341) (o := .cells #[.bool t332, .slice Ao64 t333.length co64, .slice Ao65 t336.length co65] 44 (0, 0)) (by refine pk_ ?_; refine jh (cs := #[.bool t332, .slice Ao64 t333.length co64, .slice none 0 0]) ?_ 2 _ rs_; refine pk_ ?_; refine jh (cs := #[.bool t332, .slice none 0 0, .slice none 0 0]) ?_ 1 _ rs_; refine pk_ ?_; refine jh (cs := #[.bool false, .slice none 0 0, .slice none 0 0]) ?_ 0 _ rs_; refine pk_ ?_; exact BK341.out) hb); replace HB := jA.mk (jO (bb2_ HB GE310 GE341) hb)))
               go_ret
               exact ⟨by first | rfl | (rw [HRT_.out]; rfl) | (simp only [HRT_.out]; done) | exact of_decide_eq_true HRT_.out | (have h_ := HRT_.out; simp at h_ ⊢; exact h_) | (have h_ := HRT_.out; simp at h_ ⊢; omega) | (have h_ := HRT_.out; simp [h_]; done) | (simp [vF, vE] <;> rfl) | (simp [*, vF, vE] <;> rfl), (bb2_ HB GE310 GE341)⟩
              ·
               rw [if_neg c56] at H
               have c56b0 := beq_eq_false_iff_ne.mpr c56
               have c56b1 := bne_iff_ne.mpr c56
               exact absurd H (by simp)
             ·
              rw [if_neg c55] at H
              have c55b0 := beq_eq_false_iff_ne.mpr c55
              have c55b1 := bne_iff_ne.mpr c55
              exact absurd H (by simp)
            ·
             rw [if_neg c53] at H
             exact absurd H (by simp)
           ·
            rw [if_neg c52] at H
            have c52b0 := beq_eq_false_iff_ne.mpr c52
            have c52b1 := bne_iff_ne.mpr c52
            by_cases c68 : t330.toList = ([] : List UInt8)
            ·
             rw [if_pos c68] at H
             have c68b0 := beq_iff_eq.mpr c68
             have c68b1 := bne_eq_false_iff_eq.mpr c68
             clear c68
             have HRT_ := jA.mk (Option.some.inj H)
             clear H
             have hcz69_0 : wc.cell? ⟨gb310, 0, none⟩ = some (.bool a2_0) := (jD BK310.out 0).trans rfl
             have hcz69_1 : wc.cell? ⟨gb310, 1, none⟩ = some (.slice A2_1 l2_1.length c2_1) := (jD BK310.out 1).trans rfl
             have hcz69_2 : wc.cell? ⟨gb310, 2, none⟩ = some (.slice A2_2 l2_2.length c2_2) := (jD BK310.out 2).trans rfl
             have hfz69_0 := jJ BK310.out 0
             have hfz69_1 := jJ BK310.out 1
             have hfz69_2 := jJ BK310.out 2
             go_wp2_with (first | ((with_reducible refine jF (f := 31) rfl ?_); refine jf (some 115) rfl rfl Try.func31 kr_ rfl #[.agg #[.bool a2_0, .slice A2_1 l2_1.length c2_1, .slice A2_2 l2_2.length c2_2]] rfl mt_ ?_; (with_reducible refine (vO.calls kj39 a2_0 _ _ l2_1 _ _ l2_2 t330 t331 _ ?side1 ?side2 ?side3 ?side4 A51.out).mono ?_); (case side1 => exact cc_ (Kd.jT HR2_1.out HB.out)); (case side2 => exact HC2_1.out); (case side3 => exact cc_ (Kd.jT HR2_2.out HB.out)); (case side4 => exact HC2_2.out); rintro e w70 ⟨rfl, hb⟩; refine ⟨_, rfl, ?_⟩; replace BK310 := bk_ BK310 hb; replace HB := jA.mk (jO (bb1_ HB GE310) hb)))
             go_ret
             exact ⟨by first | rfl | (rw [HRT_.out]; rfl) | (simp only [HRT_.out]; done) | exact of_decide_eq_true HRT_.out | (have h_ := HRT_.out; simp at h_ ⊢; exact h_) | (have h_ := HRT_.out; simp at h_ ⊢; omega) | (have h_ := HRT_.out; simp [h_]; done) | (simp [vF, vE] <;> rfl) | (simp [*, vF, vE] <;> rfl), (bb1_ HB GE310)⟩
            ·
             rw [if_neg c68] at H
             have c68b0 := beq_eq_false_iff_ne.mpr c68
             have c68b1 := bne_iff_ne.mpr c68
             exact absurd H (by simp)
     ·
      rw [if_neg c26] at H
      exact absurd H (by simp)
    ·
     rw [if_neg c23] at H
     exact absurd H (by simp)

/-- What is told of a parameter. -/
def syzygylaw06_OctetBack.wf44 (x : S44) : Prop := True ∧ ((x.f1.length ≤ maxLen ∧ ∀ y0_ ∈ x.f1, (Lit.int .u64 y0_).wf = true) ∧ (x.f2.length ≤ maxLen ∧ ∀ y0_ ∈ x.f2, (Lit.int .u64 y0_).wf = true))
/-- THE ONE PURE STATEMENT of syzygylaw06_OctetBack: yours. -/
def syzygylaw06_OctetBack.Pure : Prop := ∀ (a0 : Int) (l1 : List Int) (a2_0 : Bool) (l2_1 : List Int) (l2_2 : List Int) (a3 : ByteArray) (a4 : ByteArray), (Lit.int .u64 a0).wf = true → l1.length ≤ maxLen → (∀ x ∈ l1, (Lit.int .u64 x).wf = true) → syzygylaw06_OctetBack.wf44 (⟨a2_0, l2_1, l2_2⟩ : S44) → a3.size ≤ maxLen → a4.size ≤ maxLen → ∃ k, syzygylaw06_OctetBack.f k a0 l1 a2_0 l2_1 l2_2 a3 a4 = some true
theorem syzygylaw06_OctetBack.walk (P : syzygylaw06_OctetBack.Pure) (a0 : Int) (A1 : Option Addr) (c1 : Nat) (l1 : List Int) (a2_0 : Bool) (A2_1 : Option Addr) (c2_1 : Nat) (l2_1 : List Int) (A2_2 : Option Addr) (c2_2 : Nat) (l2_2 : List Int) (a3 : ByteArray) (a4 : ByteArray) (w : World) (hr1 : Kd.C (Kd.int .u64) w A1 l1.length l1) (hc1 : l1.length ≤ c1) (hr2_1 : Kd.C (Kd.int .u64) w A2_1 l2_1.length l2_1) (hc2_1 : l2_1.length ≤ c2_1) (hr2_2 : Kd.C (Kd.int .u64) w A2_2 l2_2.length l2_2) (hc2_2 : l2_2.length ≤ c2_2) (f0 : (Lit.int .u64 a0).wf = true) (f1 : l1.length ≤ maxLen) (f2 : (∀ x ∈ l1, (Lit.int .u64 x).wf = true)) (f3 : syzygylaw06_OctetBack.wf44 (⟨a2_0, l2_1, l2_2⟩ : S44)) (f4 : a3.size ≤ maxLen) (f5 : a4.size ≤ maxLen) :
  Calls Try.prog 13 #[.int .u64 a0, .slice A1 l1.length c1, .agg #[.bool a2_0, .slice A2_1 l2_1.length c2_1, .slice A2_2 l2_2.length c2_2], .string a3, .string a4] w fun e w' => e = .returned (.bool true) ∧ Below w.heap.size w w' := by
 obtain ⟨k, h⟩ := P a0 l1 a2_0 l2_1 l2_2 a3 a4 f0 f1 f2 f3 f4 f5
 refine (syzygylaw06_OctetBack.calls k a0 A1 c1 l1 a2_0 A2_1 c2_1 l2_1 A2_2 c2_2 l2_2 a3 a4 w hr1 hc1 hr2_1 hc2_1 hr2_2 hc2_2 h).mono ?_
 rintro e w' ⟨rfl, hd⟩
 exact ⟨rfl, hd⟩

end Go.Proofs.Ytijgeonhbmgikaa.POOctetBack
