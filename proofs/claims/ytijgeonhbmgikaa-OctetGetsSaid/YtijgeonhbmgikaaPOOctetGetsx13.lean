-- printed (pr.py)
import Derived.Test.YtijgeonhbmgikaaPOOctetGetsx0
import Derived.Test.YtijgeonhbmgikaaPOOctetGetsx1
import Derived.Test.YtijgeonhbmgikaaPOOctetGetsx3
import Derived.Test.YtijgeonhbmgikaaPOOctetGetsx5
import Derived.Test.YtijgeonhbmgikaaPOOctetGetsx12
namespace Go.Proofs.Ytijgeonhbmgikaa.POOctetGets
open Go.RowKit Go.Proofs.YtijgeonhbmgikaaN Go.Proofs.YtijgeonhbmgikaaW.PrintWords Go.Proofs.YtijgeonhbmgikaaW.PrintLast Go.Proofs.YtijgeonhbmgikaaW.PrintMore
attribute [local go_sem] qC zy qR qP za zZ qA zx
set_option maxHeartbeats 8000000
set_option maxRecDepth 100000
set_option linter.unusedVariables false
set_option linter.unusedSimpArgs false

/-! ### qZ: function 27 -/
def qZ.f (k : Nat) (a0_0 : Bool) (l0_1 : List Int) (l0_2 : List Int) : Option (Bool) := (vI.f k l0_1 l0_2).bind fun bt297 => (if bt297.2 = 0 then (if (l0_2.length : Int) > 0 then ((jAH.f k bt297.1 (([1] : List Int))).bind fun t304 => (if t304 = 0 then (if a0_0 = true then ((qy.f a0_0 l0_1 l0_2).bind fun t305 => (some (!t305))) else (some true)) else (some false))) else (some false)) else (some false))
theorem qZ.mono : ∀ a0 a1 a2 k, LeO (qZ.f k a0 a1 a2) (qZ.f (k + 1) a0 a1 a2) := by
 intro a0 a1 a2 k
 unfold qZ.f
 repeat' first
   | (with_reducible exact jAH.mono _ _ _)
   | (with_reducible exact vI.mono _ _ _)
   | (with_reducible exact LeO.refl _)
   | (with_reducible exact LeO.none _)
   | (with_reducible refine LeO.ite ?_ ?_)
   | (with_reducible refine LeO.bind ?_ (fun _ => ?_))
theorem qZ.calls (k : Nat) (a0_0 : Bool) (A0_1 : Option Addr) (c0_1 : Nat) (l0_1 : List Int) (A0_2 : Option Addr) (c0_2 : Nat) (l0_2 : List Int) (r : Bool) (w : World) (hr0_1 : Kd.C (Kd.int .u64) w A0_1 l0_1.length l0_1) (hc0_1 : l0_1.length ≤ c0_1) (hr0_2 : Kd.C (Kd.int .u64) w A0_2 l0_2.length l0_2) (hc0_2 : l0_2.length ≤ c0_2) (h : qZ.f k a0_0 l0_1 l0_2 = some r) :
  Calls Try.prog 27 #[.agg #[.bool a0_0, .slice A0_1 l0_1.length c0_1, .slice A0_2 l0_2.length c0_2]] w fun e w' => e = .returned (.bool r) ∧ Below w.heap.size w w' := by
 have hu44 := Try.underlying44
 have HR0_1 := jA.mk hr0_1
 have HC0_1 := jA.mk hc0_1
 clear hr0_1 hc0_1
 have HR0_2 := jA.mk hr0_2
 have HC0_2 := jA.mk hc0_2
 clear hr0_2 hc0_2
 have HB := jA.mk (Below.refl w.heap.size w)
 have H : ((vI.f k l0_1 l0_2).bind fun bt297 => (if bt297.2 = 0 then (if (l0_2.length : Int) > 0 then ((jAH.f k bt297.1 (([1] : List Int))).bind fun t304 => (if t304 = 0 then (if a0_0 = true then ((qy.f a0_0 l0_1 l0_2).bind fun t305 => (some (!t305))) else (some true)) else (some false))) else (some false)) else (some false))) = some r := h
 clear h
 replace H := ob_ H
 obtain ⟨⟨t297, t298⟩, A20, H⟩ := H
 try dsimp only at H
 have A2 := jA.mk A20
 clear A20
 by_cases c3 : t298 = 0
 ·
  rw [if_pos c3] at H
  have c3b0 := beq_iff_eq.mpr c3
  have c3b1 := bne_eq_false_iff_eq.mpr c3
  clear c3
  by_cases c4 : (l0_2.length : Int) > 0
  ·
   rw [if_pos c4] at H
   have c4b0 := decide_eq_true c4
   have c4b1 : decide (0 < l0_2.length) = true := decide_eq_true (by omega)
   clear c4
   obtain ⟨y301, hy301⟩ : ∃ y_ : List Int, y_ = (([1] : List Int)) := ⟨_, rfl⟩
   replace H : ((jAH.f k t297 y301).bind fun t304 => (if t304 = 0 then (if a0_0 = true then ((qy.f a0_0 l0_1 l0_2).bind fun t305 => (some (!t305))) else (some true)) else (some false))) = some r := by first | (rw [hy301]; with_reducible exact H) | (have H2_ := (Option.bind_some _ _).symm.trans H; rw [hy301]; with_reducible exact H2_) | (with_reducible exact hs_ H) | with_reducible exact H | (rw [hy301]; exact H) | exact H
   have Ny301 := jA.mk hy301
   clear hy301
   replace H := ob_ H
   obtain ⟨t304, A50, H⟩ := H
   try dsimp only at H
   have A5 := jA.mk A50
   clear A50
   by_cases c6 : t304 = 0
   ·
    rw [if_pos c6] at H
    have c6b0 := beq_iff_eq.mpr c6
    have c6b1 := bne_eq_false_iff_eq.mpr c6
    clear c6
    by_cases c7 : a0_0 = true
    ·
     subst c7
     have H1 : ((qy.f true l0_1 l0_2).bind fun t305 => (some (!t305))) = some r := by rw [if_pos rfl] at H; exact H
     clear H
     have H := H1
     clear H1
     replace H := ob_ H
     obtain ⟨t305, A80, H⟩ := H
     try dsimp only at H
     have A8 := jA.mk A80
     clear A80
     obtain rfl := Option.some.inj H
     go_enter Try.func27, Try.ntmps27
     go_wp2_with (first | ((with_reducible refine jr (N := 1) rfl ?_); (try (refine vE (by rfl) ?_; dsimp only)); refine zR ?hg (N := 1) ?hd (cs := #[.bool true, .slice A0_1 l0_1.length c0_1, .slice A0_2 l0_2.length c0_2]) (t := 44) ?hr ?_; (case hd => rfl); (case hg => rfl); (case hr => exact gs_); intro gb296 hg w9 hbox hb; have BK296 := jA.mk (hbox); have GW296 := jA.mk ((by rw [hg]; exact (jB (bb_ HB)) : w.heap.size ≤ gb296)); have GE296 := jA.mk ((by rw [hg]; exact (jB (bb_ HB)) : w.heap.size ≤ gb296)); replace HB := bs_ HB hb; clear hb hbox hg; obtain ⟨hcz10_0, hcz10_1, hcz10_2, hfz10_0, hfz10_1, hfz10_2⟩ := bf3_ BK296) | ((with_reducible refine jG (f := 71) rfl ?_); refine jo (some 10) rfl rfl Try.func71 kr_ rfl #[.slice A0_1 l0_1.length c0_1, .slice A0_2 l0_2.length c0_2] rfl mt_ ?_; (with_reducible refine (vI.calls k _ _ l0_1 _ _ l0_2 t297 t298 _ ?side1 ?side2 ?side3 ?side4 A2.out).mono ?_); (case side1 => exact cc_ (Kd.jq HR0_1.out HB.out)); (case side2 => exact HC0_1.out); (case side3 => exact cc_ (Kd.jq HR0_2.out HB.out)); (case side4 => exact HC0_2.out); rintro e w11 ⟨v299, rfl, ho0, hb⟩; refine ⟨_, rfl, ?_⟩; have HO300 := jA.mk (Kd.jU ho0 (jB (bb1_ HB GE296))); replace BK296 := bk_ BK296 hb; replace HB := jA.mk (jv (bb1_ HB GE296) hb); obtain ⟨hcz12_0, hcz12_1, hcz12_2, hfz12_0, hfz12_1, hfz12_2⟩ := bf3_ BK296) | ((with_reducible refine jr (N := 23) rfl ?_); (try (refine vE (by rfl) ?_; dsimp only)); refine Kd.jAN (Kd.int .u64) _ 22 ?hg (N := 23) ?hd (xs := ([1] : List Int)) (inner := [.int .u64 1]) (ok := fun _ => True) (okp := fun _ => True) ?hr ?hp (fun _ hk => hk) trivial (Below.refl _ _) (Nat.le_refl _) (by simp) ?_; (case hd => rfl); (case hg => rfl); (case hr => exact gs_); (case hp => exact (Reps.one (show Kd.M (Kd.int .u64) _ _ _ 1 [.int .u64 1] from rfl) (Reps.none _ _))); intro v302 w13 ho14 hb hg_ hnew_; clear hg_ hnew_; (first | rw [← Ny301.out] at ho14 | (simp only [Int.reduceToNat] at ho14; rw [← Ny301.out] at ho14)); have HO303 := jA.mk (Kd.jU (Kd.jR ho14 (Kd.R_lt (rR_ HO300))) (jB (bb1_ HB GE296))); replace HO300 := re_ HO300 ho14 hb; replace BK296 := bk_ BK296 hb; replace HB := jA.mk (jv (bb1_ HB GE296) hb); clear hb ho14; obtain ⟨Ao15, co15, eo15⟩ := Kd.jm HO300.out; subst eo15; obtain ⟨Ao16, co16, eo16⟩ := Kd.jm HO303.out; subst eo16) | ((with_reducible refine jr (N := 24) rfl ?_); (try (refine vE (by rfl) ?_; dsimp only)); refine vE (by first | rfl | kernel_rfl) ?_; dsimp only; (with_reducible refine jG (f := 73) rfl ?_); refine jo (some 24) rfl rfl Try.func73 kr_ rfl #[.slice Ao15 t297.length co15, .slice Ao16 y301.length co16] rfl mt_ ?_; (with_reducible refine (jAH.calls k _ _ t297 _ _ y301 t304 _ ?side1 ?side2 ?side3 ?side4 A5.out).mono ?_); (case side1 => exact cc_ (Kd.jF HO300.out).2.2); (case side2 => exact (Kd.jF HO300.out).2.1); (case side3 => exact cc_ (Kd.jF HO303.out).2.2); (case side4 => exact (Kd.jF HO303.out).2.1); rintro e w17 ⟨rfl, hb⟩; refine ⟨_, rfl, ?_⟩; replace HO300 := ro_ HO300 hb; replace HO303 := ro_ HO303 hb; replace BK296 := bk_ BK296 hb; replace HB := jA.mk (jv (bb1_ HB GE296) hb); obtain ⟨hcz18_0, hcz18_1, hcz18_2, hfz18_0, hfz18_1, hfz18_2⟩ := bf3_ BK296) | (go_at_call 54; (with_reducible refine (qy.calls true _ _ l0_1 _ _ l0_2 t305 _ ?side1 ?side2 ?side3 ?side4 A8.out).mono ?_); (case side1 => exact cc_ (Kd.jq HR0_1.out HB.out)); (case side2 => exact HC0_1.out); (case side3 => exact cc_ (Kd.jq HR0_2.out HB.out)); (case side4 => exact HC0_2.out); rintro e w19 ⟨rfl, hb⟩; replace HO300 := ro_ HO300 hb; replace HO303 := ro_ HO303 hb; replace BK296 := bk_ BK296 hb; replace HB := jA.mk (jv (bb1_ HB GE296) hb)))
     go_ret
     exact ⟨ew_, (bb1_ HB GE296)⟩
    ·
     replace c7 := Bool.eq_false_iff.mpr c7
     subst c7
     have H1 : (some true) = some r := by rw [if_neg (show ¬ (false = true) by decide)] at H; exact H
     clear H
     have H := H1
     clear H1
     obtain rfl := Option.some.inj H
     go_enter Try.func27, Try.ntmps27
     go_wp2_with (first | ((with_reducible refine jr (N := 1) rfl ?_); (try (refine vE (by rfl) ?_; dsimp only)); refine zR ?hg (N := 1) ?hd (cs := #[.bool false, .slice A0_1 l0_1.length c0_1, .slice A0_2 l0_2.length c0_2]) (t := 44) ?hr ?_; (case hd => rfl); (case hg => rfl); (case hr => exact gs_); intro gb296 hg w20 hbox hb; have BK296 := jA.mk (hbox); have GW296 := jA.mk ((by rw [hg]; exact (jB (bb_ HB)) : w.heap.size ≤ gb296)); have GE296 := jA.mk ((by rw [hg]; exact (jB (bb_ HB)) : w.heap.size ≤ gb296)); replace HB := bs_ HB hb; clear hb hbox hg; obtain ⟨hcz21_0, hcz21_1, hcz21_2, hfz21_0, hfz21_1, hfz21_2⟩ := bf3_ BK296) | ((with_reducible refine jG (f := 71) rfl ?_); refine jo (some 10) rfl rfl Try.func71 kr_ rfl #[.slice A0_1 l0_1.length c0_1, .slice A0_2 l0_2.length c0_2] rfl mt_ ?_; (with_reducible refine (vI.calls k _ _ l0_1 _ _ l0_2 t297 t298 _ ?side1 ?side2 ?side3 ?side4 A2.out).mono ?_); (case side1 => exact cc_ (Kd.jq HR0_1.out HB.out)); (case side2 => exact HC0_1.out); (case side3 => exact cc_ (Kd.jq HR0_2.out HB.out)); (case side4 => exact HC0_2.out); rintro e w22 ⟨v299, rfl, ho0, hb⟩; refine ⟨_, rfl, ?_⟩; have HO300 := jA.mk (Kd.jU ho0 (jB (bb1_ HB GE296))); replace BK296 := bk_ BK296 hb; replace HB := jA.mk (jv (bb1_ HB GE296) hb); obtain ⟨hcz23_0, hcz23_1, hcz23_2, hfz23_0, hfz23_1, hfz23_2⟩ := bf3_ BK296) | ((with_reducible refine jr (N := 23) rfl ?_); (try (refine vE (by rfl) ?_; dsimp only)); refine Kd.jAN (Kd.int .u64) _ 22 ?hg (N := 23) ?hd (xs := ([1] : List Int)) (inner := [.int .u64 1]) (ok := fun _ => True) (okp := fun _ => True) ?hr ?hp (fun _ hk => hk) trivial (Below.refl _ _) (Nat.le_refl _) (by simp) ?_; (case hd => rfl); (case hg => rfl); (case hr => exact gs_); (case hp => exact (Reps.one (show Kd.M (Kd.int .u64) _ _ _ 1 [.int .u64 1] from rfl) (Reps.none _ _))); intro v302 w24 ho25 hb hg_ hnew_; clear hg_ hnew_; (first | rw [← Ny301.out] at ho25 | (simp only [Int.reduceToNat] at ho25; rw [← Ny301.out] at ho25)); have HO303 := jA.mk (Kd.jU (Kd.jR ho25 (Kd.R_lt (rR_ HO300))) (jB (bb1_ HB GE296))); replace HO300 := re_ HO300 ho25 hb; replace BK296 := bk_ BK296 hb; replace HB := jA.mk (jv (bb1_ HB GE296) hb); clear hb ho25; obtain ⟨Ao26, co26, eo26⟩ := Kd.jm HO300.out; subst eo26; obtain ⟨Ao27, co27, eo27⟩ := Kd.jm HO303.out; subst eo27) | ((with_reducible refine jr (N := 24) rfl ?_); (try (refine vE (by rfl) ?_; dsimp only)); refine vE (by first | rfl | kernel_rfl) ?_; dsimp only; (with_reducible refine jG (f := 73) rfl ?_); refine jo (some 24) rfl rfl Try.func73 kr_ rfl #[.slice Ao26 t297.length co26, .slice Ao27 y301.length co27] rfl mt_ ?_; (with_reducible refine (jAH.calls k _ _ t297 _ _ y301 t304 _ ?side1 ?side2 ?side3 ?side4 A5.out).mono ?_); (case side1 => exact cc_ (Kd.jF HO300.out).2.2); (case side2 => exact (Kd.jF HO300.out).2.1); (case side3 => exact cc_ (Kd.jF HO303.out).2.2); (case side4 => exact (Kd.jF HO303.out).2.1); rintro e w28 ⟨rfl, hb⟩; refine ⟨_, rfl, ?_⟩; replace HO300 := ro_ HO300 hb; replace HO303 := ro_ HO303 hb; replace BK296 := bk_ BK296 hb; replace HB := jA.mk (jv (bb1_ HB GE296) hb); obtain ⟨hcz29_0, hcz29_1, hcz29_2, hfz29_0, hfz29_1, hfz29_2⟩ := bf3_ BK296))
     go_ret
     exact ⟨ew_, (bb1_ HB GE296)⟩
   ·
    rw [if_neg c6] at H
    have c6b0 := beq_eq_false_iff_ne.mpr c6
    have c6b1 := bne_iff_ne.mpr c6
    obtain rfl := Option.some.inj H
    go_enter Try.func27, Try.ntmps27
    go_wp2_with (first | ((with_reducible refine jr (N := 1) rfl ?_); (try (refine vE (by rfl) ?_; dsimp only)); refine zR ?hg (N := 1) ?hd (cs := #[.bool a0_0, .slice A0_1 l0_1.length c0_1, .slice A0_2 l0_2.length c0_2]) (t := 44) ?hr ?_; (case hd => rfl); (case hg => rfl); (case hr => exact gs_); intro gb296 hg w30 hbox hb; have BK296 := jA.mk (hbox); have GW296 := jA.mk ((by rw [hg]; exact (jB (bb_ HB)) : w.heap.size ≤ gb296)); have GE296 := jA.mk ((by rw [hg]; exact (jB (bb_ HB)) : w.heap.size ≤ gb296)); replace HB := bs_ HB hb; clear hb hbox hg; obtain ⟨hcz31_0, hcz31_1, hcz31_2, hfz31_0, hfz31_1, hfz31_2⟩ := bf3_ BK296) | ((with_reducible refine jG (f := 71) rfl ?_); refine jo (some 10) rfl rfl Try.func71 kr_ rfl #[.slice A0_1 l0_1.length c0_1, .slice A0_2 l0_2.length c0_2] rfl mt_ ?_; (with_reducible refine (vI.calls k _ _ l0_1 _ _ l0_2 t297 t298 _ ?side1 ?side2 ?side3 ?side4 A2.out).mono ?_); (case side1 => exact cc_ (Kd.jq HR0_1.out HB.out)); (case side2 => exact HC0_1.out); (case side3 => exact cc_ (Kd.jq HR0_2.out HB.out)); (case side4 => exact HC0_2.out); rintro e w32 ⟨v299, rfl, ho0, hb⟩; refine ⟨_, rfl, ?_⟩; have HO300 := jA.mk (Kd.jU ho0 (jB (bb1_ HB GE296))); replace BK296 := bk_ BK296 hb; replace HB := jA.mk (jv (bb1_ HB GE296) hb); obtain ⟨hcz33_0, hcz33_1, hcz33_2, hfz33_0, hfz33_1, hfz33_2⟩ := bf3_ BK296) | ((with_reducible refine jr (N := 23) rfl ?_); (try (refine vE (by rfl) ?_; dsimp only)); refine Kd.jAN (Kd.int .u64) _ 22 ?hg (N := 23) ?hd (xs := ([1] : List Int)) (inner := [.int .u64 1]) (ok := fun _ => True) (okp := fun _ => True) ?hr ?hp (fun _ hk => hk) trivial (Below.refl _ _) (Nat.le_refl _) (by simp) ?_; (case hd => rfl); (case hg => rfl); (case hr => exact gs_); (case hp => exact (Reps.one (show Kd.M (Kd.int .u64) _ _ _ 1 [.int .u64 1] from rfl) (Reps.none _ _))); intro v302 w34 ho35 hb hg_ hnew_; clear hg_ hnew_; (first | rw [← Ny301.out] at ho35 | (simp only [Int.reduceToNat] at ho35; rw [← Ny301.out] at ho35)); have HO303 := jA.mk (Kd.jU (Kd.jR ho35 (Kd.R_lt (rR_ HO300))) (jB (bb1_ HB GE296))); replace HO300 := re_ HO300 ho35 hb; replace BK296 := bk_ BK296 hb; replace HB := jA.mk (jv (bb1_ HB GE296) hb); clear hb ho35; obtain ⟨Ao36, co36, eo36⟩ := Kd.jm HO300.out; subst eo36; obtain ⟨Ao37, co37, eo37⟩ := Kd.jm HO303.out; subst eo37) | ((with_reducible refine jr (N := 24) rfl ?_); (try (refine vE (by rfl) ?_; dsimp only)); refine vE (by first | rfl | kernel_rfl) ?_; dsimp only; (with_reducible refine jG (f := 73) rfl ?_); refine jo (some 24) rfl rfl Try.func73 kr_ rfl #[.slice Ao36 t297.length co36, .slice Ao37 y301.length co37] rfl mt_ ?_; (with_reducible refine (jAH.calls k _ _ t297 _ _ y301 t304 _ ?side1 ?side2 ?side3 ?side4 A5.out).mono ?_); (case side1 => exact cc_ (Kd.jF HO300.out).2.2); (case side2 => exact (Kd.jF HO300.out).2.1); (case side3 => exact cc_ (Kd.jF HO303.out).2.2); (case side4 => exact (Kd.jF HO303.out).2.1); rintro e w38 ⟨rfl, hb⟩; refine ⟨_, rfl, ?_⟩; replace HO300 := ro_ HO300 hb; replace HO303 := ro_ HO303 hb; replace BK296 := bk_ BK296 hb; replace HB := jA.mk (jv (bb1_ HB GE296) hb)))
    go_ret
    exact ⟨ew_, (bb1_ HB GE296)⟩
  ·
   rw [if_neg c4] at H
   have c4b0 := decide_eq_false c4
   have c4b1 : decide (0 < l0_2.length) = false := decide_eq_false (by omega)
   clear c4
   obtain rfl := Option.some.inj H
   go_enter Try.func27, Try.ntmps27
   go_wp2_with (first | ((with_reducible refine jr (N := 1) rfl ?_); (try (refine vE (by rfl) ?_; dsimp only)); refine zR ?hg (N := 1) ?hd (cs := #[.bool a0_0, .slice A0_1 l0_1.length c0_1, .slice A0_2 l0_2.length c0_2]) (t := 44) ?hr ?_; (case hd => rfl); (case hg => rfl); (case hr => exact gs_); intro gb296 hg w39 hbox hb; have BK296 := jA.mk (hbox); have GW296 := jA.mk ((by rw [hg]; exact (jB (bb_ HB)) : w.heap.size ≤ gb296)); have GE296 := jA.mk ((by rw [hg]; exact (jB (bb_ HB)) : w.heap.size ≤ gb296)); replace HB := bs_ HB hb; clear hb hbox hg; obtain ⟨hcz40_0, hcz40_1, hcz40_2, hfz40_0, hfz40_1, hfz40_2⟩ := bf3_ BK296) | ((with_reducible refine jG (f := 71) rfl ?_); refine jo (some 10) rfl rfl Try.func71 kr_ rfl #[.slice A0_1 l0_1.length c0_1, .slice A0_2 l0_2.length c0_2] rfl mt_ ?_; (with_reducible refine (vI.calls k _ _ l0_1 _ _ l0_2 t297 t298 _ ?side1 ?side2 ?side3 ?side4 A2.out).mono ?_); (case side1 => exact cc_ (Kd.jq HR0_1.out HB.out)); (case side2 => exact HC0_1.out); (case side3 => exact cc_ (Kd.jq HR0_2.out HB.out)); (case side4 => exact HC0_2.out); rintro e w41 ⟨v299, rfl, ho0, hb⟩; refine ⟨_, rfl, ?_⟩; have HO300 := jA.mk (Kd.jU ho0 (jB (bb1_ HB GE296))); replace BK296 := bk_ BK296 hb; replace HB := jA.mk (jv (bb1_ HB GE296) hb); obtain ⟨hcz42_0, hcz42_1, hcz42_2, hfz42_0, hfz42_1, hfz42_2⟩ := bf3_ BK296))
   go_ret
   exact ⟨ew_, (bb1_ HB GE296)⟩
 ·
  rw [if_neg c3] at H
  have c3b0 := beq_eq_false_iff_ne.mpr c3
  have c3b1 := bne_iff_ne.mpr c3
  obtain rfl := Option.some.inj H
  go_enter Try.func27, Try.ntmps27
  go_wp2_with (first | ((with_reducible refine jr (N := 1) rfl ?_); (try (refine vE (by rfl) ?_; dsimp only)); refine zR ?hg (N := 1) ?hd (cs := #[.bool a0_0, .slice A0_1 l0_1.length c0_1, .slice A0_2 l0_2.length c0_2]) (t := 44) ?hr ?_; (case hd => rfl); (case hg => rfl); (case hr => exact gs_); intro gb296 hg w43 hbox hb; have BK296 := jA.mk (hbox); have GW296 := jA.mk ((by rw [hg]; exact (jB (bb_ HB)) : w.heap.size ≤ gb296)); have GE296 := jA.mk ((by rw [hg]; exact (jB (bb_ HB)) : w.heap.size ≤ gb296)); replace HB := bs_ HB hb; clear hb hbox hg; obtain ⟨hcz44_0, hcz44_1, hcz44_2, hfz44_0, hfz44_1, hfz44_2⟩ := bf3_ BK296) | ((with_reducible refine jG (f := 71) rfl ?_); refine jo (some 10) rfl rfl Try.func71 kr_ rfl #[.slice A0_1 l0_1.length c0_1, .slice A0_2 l0_2.length c0_2] rfl mt_ ?_; (with_reducible refine (vI.calls k _ _ l0_1 _ _ l0_2 t297 t298 _ ?side1 ?side2 ?side3 ?side4 A2.out).mono ?_); (case side1 => exact cc_ (Kd.jq HR0_1.out HB.out)); (case side2 => exact HC0_1.out); (case side3 => exact cc_ (Kd.jq HR0_2.out HB.out)); (case side4 => exact HC0_2.out); rintro e w45 ⟨v299, rfl, ho0, hb⟩; refine ⟨_, rfl, ?_⟩; have HO300 := jA.mk (Kd.jU ho0 (jB (bb1_ HB GE296))); replace BK296 := bk_ BK296 hb; replace HB := jA.mk (jv (bb1_ HB GE296) hb)))
  go_ret
  exact ⟨ew_, (bb1_ HB GE296)⟩

/-! ### octet_reader_ratio: function 84 -/

namespace OctRat
open Oct
def rat_ (k : Nat) (s : ByteArray) : Option (Int ⊕ (Bool × List Int × List Int × ByteArray)) :=
 if s.size < 1 then some (.inl 60) else if 1 < (bt s 0).toNat then some (.inl 62) else
 (OctNat.nat_ k (s.extract 1 s.size)).bind fun v => match v with
  | .inl c => some (.inl c)
  | .inr (a, t) => (OctNat.nat_ k t).bind fun v2 => match v2 with
   | .inl c => some (.inl c)
   | .inr (b, u) => (qZ.f k ((bt s 0) == 1) a b).bind fun m => some (if m = true then .inr ((bt s 0) == 1, a, b, u) else .inl 62)
theorem jHo (s : ByteArray) (k : Nat) : LeO (rat_ k s) (rat_ (k + 1) s) := by
 unfold rat_
 refine LeO.ite (LeO.refl _) (LeO.ite (LeO.refl _) (LeO.bind (OctNat.jDR _ _) fun v => ?_))
 cases v with
 | inl c => exact LeO.refl _
 | inr p =>
  refine LeO.bind (OctNat.jDR _ _) fun v2 => ?_
  cases v2 with
  | inl c => exact LeO.refl _
  | inr q => exact LeO.bind (qZ.mono _ _ _ _) fun _ => LeO.refl _
def jJi (g : Nat) (w : World) (v : Int ⊕ (Bool × List Int × List Int × ByteArray)) (e : Ending) (w' : World) : Prop := match v with
 | .inl c => e = .panicked (pan c) ∧ Below g w w'
 | .inr (n, a, b, t) => ∃ u1 u2 : Value, e = .returned (.agg #[.bool n, u1, u2]) ∧ Below g w w' ∧ w'.heap[g]? = some (.cells #[.string t] 86 (0, 0)) ∧ Kd.R (Kd.int .u64) 22 w' w.heap.size (fun k_ => some k_ ≠ (u2 : Value).ownBlock) u1 a ∧ Kd.R (Kd.int .u64) 22 w' w.heap.size (fun k_ => some k_ ≠ (u1 : Value).ownBlock) u2 b
theorem jIA {k : Nat} {s t : ByteArray} {l : List Int} (h : OctNat.nat_ k s = some (.inr (l, t))) : t.size ≤ s.size := by
 unfold OctNat.nat_ at h
 cases hn : num s with
 | inl c => rw [hn] at h; cases h
 | inr p =>
  obtain ⟨n, x⟩ := p
  have hx := jBE hn
  rw [hn] at h
  simp only at h
  split at h
  ·
   cases h
  ·
   split at h
   ·
    cases h
   ·
    obtain ⟨r, _, h⟩ := Option.bind_eq_some_iff.mp h
    obtain ⟨b, _, h⟩ := Option.bind_eq_some_iff.mp h
    cases b with
    | false => cases h
    | true => cases h; rw [ByteArray.size_extract]; omega
theorem jKH (k g : Nat) (s : ByteArray) (w : World) (v : Int ⊕ (Bool × List Int × List Int × ByteArray)) (hb : w.heap[g]? = some (.cells #[.string s] 86 (0, 0))) (hz : s.size ≤ 140737488351232) (h : rat_ k s = some v) :
  Calls Try.prog 84 #[.pointer (some ⟨g, 0, none⟩)] w (jJi g w v) := by
 have HB := jA.mk (vP hb (.cells #[.bool false, .slice none 0 0, .slice none 0 0] 44))
 have HA := jA.mk (qE w (.cells #[.bool false, .slice none 0 0, .slice none 0 0] 44))
 have HG := jA.mk (qK hb)
 have HW := jA.mk (jy (Below.refl w.heap.size w) (.cells #[.bool false, .slice none 0 0, .slice none 0 0] 44))
 have HS := jA.mk (show (w.alloc (.cells #[.bool false, .slice none 0 0, .slice none 0 0] 44)).heap.size = w.heap.size + 1 from Array.size_push _)
 clear hb
 unfold rat_ at h
 by_cases h1 : s.size < 1
 ·
  rw [if_pos h1] at h
  cases h
  go_enter Try.func84, Try.ntmps84
  go_wp2_with fail
  refine (jCT g 1 s _ HB.out (by omega) h1).mono ?_
  rintro e w1 ⟨rfl, rfl⟩
  exact ⟨rfl, rfl, HW.out.mono (Nat.le_of_lt HG.out)⟩
 ·
  rw [if_neg h1] at h
  obtain ⟨b, hk⟩ := Int.eq_ofNat_of_zero_le (jBH s 0).1
  have hkb : b ≤ 255 := by have := (jBH s 0).2; omega
  have hx1 : (s.extract 0 1).size = 1 := by rw [ByteArray.size_extract]; omega
  have hget : ∀ h : 0 < (s.extract 0 1).size, (((s.extract 0 1)[0]'h).toNat : Int) = (b : Int) := fun h => by
   rw [ByteArray.getElem_extract, ← hk]; exact jBN s 0 (by simp; omega)
  rw [hk] at h
  simp only [Int.toNat_natCast] at h
  have hgs : w.heap.size ≠ g := fun e => by have := HG.out; omega
  have HB1 := jA.mk (jw (cs' := #[.string (s.extract 1 s.size)]) HB.out 0 (.string (s.extract 1 s.size)) rfl)
  have HA1 := jA.mk (jd (p := ⟨g, 0, none⟩) HA.out hgs (.string (s.extract 1 s.size)))
  have HW1 := jA.mk ((HW.out.mono (Nat.le_of_lt HG.out)).setCell (p := ⟨g, 0, none⟩) (Nat.le_refl g) (.string (s.extract 1 s.size)))
  have HS1 := jA.mk (show ((w.alloc (.cells #[.bool false, .slice none 0 0, .slice none 0 0] 44)).setCell ⟨g, 0, none⟩ (.string (s.extract 1 s.size))).heap.size = w.heap.size + 1 from by rw [← HS.out]; simp [World.setCell])
  have TK := jA.mk (jAy g 1 s _ HB.out (by omega) (by omega))
  have HX := jA.mk (show (s.extract 1 s.size).size ≤ 140737488351232 by rw [ByteArray.size_extract]; omega)
  clear hk HA HW HS
  by_cases h2 : 1 < b
  ·
   rw [if_pos h2] at h
   cases h
   have t2 : decide ((b : Int) ≤ 1) = false := decide_eq_false (by omega)
   have t3 : decide (b ≤ 1) = false := decide_eq_false (by omega)
   go_enter Try.func84, Try.ntmps84
   go_wp2_with fail
   refine TK.out.mono ?_
   rintro e w1 ⟨rfl, rfl⟩
   go_wp2_with fail
   refine (jBu _).mono ?_
   rintro e w1 ⟨rfl, rfl⟩
   exact ⟨rfl, rfl, HW1.out⟩
  ·
   rw [if_neg h2] at h
   have t2 : decide ((b : Int) ≤ 1) = true := decide_eq_true (by omega)
   have t3 : decide (b ≤ 1) = true := decide_eq_true (by omega)
   obtain ⟨v1, hv1, h⟩ := Option.bind_eq_some_iff.mp h
   obtain ⟨nb, t4⟩ : ∃ nb : Bool, ((b : Int) == 1) = nb := ⟨_, rfl⟩
   have t5 : (b == 1) = nb := by
    rw [← t4]
    cases hb1 : (b == 1) with
    | true => rw [beq_iff_eq.1 hb1]; rfl
    | false => have := beq_eq_false_iff_ne.1 hb1; exact (beq_eq_false_iff_ne.2 (by omega)).symm
   rw [t4] at h
   have HH := jA.mk h
   have HV1 := jA.mk hv1
   clear h hv1 HB
   go_enter Try.func84, Try.ntmps84
   go_wp2_with fail
   refine TK.out.mono ?_
   rintro e w1 ⟨rfl, rfl⟩
   clear TK
   generalize (w.alloc (.cells #[.bool false, .slice none 0 0, .slice none 0 0] 44)).setCell ⟨g, 0, none⟩ (.string (s.extract 1 s.size)) = W at HB1 HA1 HW1 HS1 ⊢
   go_wp2_with fail
   refine (jAk _).mono ?_
   rintro e w1 ⟨rfl, rfl⟩
   have q0 := (jJ HA1.out 0).trans (show _ = some (.bool false) from rfl)
   have f0 := jT HA1.out 0
   have HB2 := jA.mk (jd (p := ⟨w.heap.size, 0, none⟩) HB1.out (by show g ≠ w.heap.size; omega) (.bool nb))
   have HA2 := jA.mk (jw (cs' := #[.bool nb, .slice none 0 0, .slice none 0 0]) HA1.out 0 (.bool nb) rfl)
   have HW2 := jA.mk (HW1.out.setCell (p := ⟨w.heap.size, 0, none⟩) (Nat.le_of_lt HG.out) (.bool nb))
   have HS2 := jA.mk (show (W.setCell ⟨w.heap.size, 0, none⟩ (.bool nb)).heap.size = w.heap.size + 1 from by rw [← HS1.out]; simp [World.setCell])
   clear HB1 HA1 HW1 HS1
   go_wp2_with fail
   have NC := jA.mk (OctNat.jBq k g (s.extract 1 s.size) _ v1 HB2.out HX.out HV1.out)
   generalize W.setCell ⟨w.heap.size, 0, none⟩ (.bool nb) = W2 at HB2 HA2 HW2 HS2 NC ⊢
   cases v1 with
   | inl c =>
    have hh := HH.out
    cases hh
    refine NC.out.mono ?_
    rintro e w1 ⟨rfl, hb⟩
    exact ⟨rfl, rfl, HW2.out.trans hb.1⟩
   | inr p =>
    obtain ⟨a, t⟩ := p
    have hh := HH.out
    clear HH
    simp only at hh
    obtain ⟨v2, hv2, hh⟩ := Option.bind_eq_some_iff.mp hh
    have HH := jA.mk hh
    have HV2 := jA.mk hv2
    have HTZ := jA.mk (Nat.le_trans (jIA HV1.out) HX.out)
    clear hh hv2 HV1
    refine NC.out.mono ?_
    rintro e w4 ⟨u, rfl, hb4, h4, hr⟩
    obtain ⟨A1, c1, rfl⟩ := Kd.jm hr
    have HA3 := jA.mk (hb4.2.blk HA2.out hgs (by simp))
    have HW3 := jA.mk (HW2.out.trans hb4.1)
    have HR3 := jA.mk (Kd.jU (base' := w.heap.size) (Kd.jk (ok' := fun k_ => w.heap.size + 1 ≤ k_) (Kd.qY hr) (fun k_ hk_ => by have := hk_.2.1; have := HS2.out; omega)) (by have := HS2.out; omega))
    have HZ3 := jA.mk (show w.heap.size + 1 ≤ w4.heap.size by have := hb4.1.size; have := HS2.out; omega)
    have q1 := (jJ HA3.out 1).trans (show _ = some (.slice none 0 0) from rfl)
    have f1 := jT HA3.out 1
    have HB5 := jA.mk (jd (p := ⟨w.heap.size, 1, none⟩) h4 (by show g ≠ w.heap.size; omega) (.slice A1 a.length c1))
    have HA5 := jA.mk (jw (cs' := #[.bool nb, .slice A1 a.length c1, .slice none 0 0]) HA3.out 1 (.slice A1 a.length c1) rfl)
    have HW5 := jA.mk (HW3.out.setCell (p := ⟨w.heap.size, 1, none⟩) (Nat.le_of_lt HG.out) (.slice A1 a.length c1))
    have HR5 := jA.mk (Oct.jEH (p := ⟨w.heap.size, 1, none⟩) HR3.out (by show w.heap.size < _; omega) (.slice A1 a.length c1))
    have HZ5 := jA.mk (show w.heap.size + 1 ≤ (w4.setCell ⟨w.heap.size, 1, none⟩ (.slice A1 a.length c1)).heap.size by have := HZ3.out; simpa [World.setCell] using this)
    clear hr hb4 h4 HA2 HB2 HW2 HS2 HA3 HW3 HR3 HZ3 NC
    go_wp2_with fail
    have NC := jA.mk (OctNat.jBq k g t _ v2 HB5.out HTZ.out HV2.out)
    generalize w4.setCell ⟨w.heap.size, 1, none⟩ (.slice A1 a.length c1) = W5 at HB5 HA5 HW5 HR5 HZ5 NC ⊢
    cases v2 with
    | inl c =>
     have hh := HH.out
     cases hh
     refine NC.out.mono ?_
     rintro e w1 ⟨rfl, hb⟩
     exact ⟨rfl, rfl, HW5.out.trans hb.1⟩
    | inr p =>
     obtain ⟨b2, t2⟩ := p
     have hh := HH.out
     clear HH HV2
     simp only at hh
     obtain ⟨m, hm, hh⟩ := Option.bind_eq_some_iff.mp hh
     have HH := jA.mk hh
     have HM := jA.mk hm
     clear hh hm
     refine NC.out.mono ?_
     rintro e w6 ⟨u, rfl, hb6, h6, hr⟩
     obtain ⟨A2, c2, rfl⟩ := Kd.jm hr
     have HA6 := jA.mk (hb6.2.blk HA5.out hgs (by simp))
     have HW6 := jA.mk (HW5.out.trans hb6.1)
     have HR6 := jA.mk (Kd.jLB (Kd.jk (ok' := fun k_ => w.heap.size + 1 ≤ k_ ∧ k_ < W5.heap.size) (Kd.qY HR5.out) (fun k_ hk_ => ⟨hk_.1, hk_.2.2.1⟩)) hb6.2 (fun k_ hk_ => by have := hk_.1; have := HG.out; omega))
     have HQ6 := jA.mk (Kd.jU (base' := w.heap.size) (Kd.jk (ok' := fun k_ => W5.heap.size ≤ k_) (Kd.qY hr) (fun k_ hk_ => hk_.2.1)) (by have := HZ5.out; omega))
     have HS6 := jA.mk hb6.1.size
     have q2 := (jJ HA6.out 2).trans (show _ = some (.slice none 0 0) from rfl)
     have f2 := jT HA6.out 2
     have HB7 := jA.mk (jd (p := ⟨w.heap.size, 2, none⟩) h6 (by show g ≠ w.heap.size; omega) (.slice A2 b2.length c2))
     have HA7 := jA.mk (jw (cs' := #[.bool nb, .slice A1 a.length c1, .slice A2 b2.length c2]) HA6.out 2 (.slice A2 b2.length c2) rfl)
     have HW7 := jA.mk (HW6.out.setCell (p := ⟨w.heap.size, 2, none⟩) (Nat.le_of_lt HG.out) (.slice A2 b2.length c2))
     have HR7 := jA.mk (Kd.qX (p := ⟨w.heap.size, 2, none⟩) HR6.out (fun k_ hk_ => by have := hk_.1; show k_ ≠ w.heap.size; omega) (.slice A2 b2.length c2))
     have HQ7 := jA.mk (Kd.qX (p := ⟨w.heap.size, 2, none⟩) HQ6.out (fun k_ hk_ => by have := HZ5.out; show k_ ≠ w.heap.size; omega) (.slice A2 b2.length c2))
     have HZ7 := jA.mk (show w.heap.size + 1 ≤ (w6.setCell ⟨w.heap.size, 2, none⟩ (.slice A2 b2.length c2)).heap.size by have := HS6.out; have := HZ5.out; simp [World.setCell]; omega)
     clear hr hb6 h6 HA5 HB5 HW5 HR5 HA6 HW6 HR6 HQ6 HS6 NC
     have q3 := (jJ HA7.out 0).trans (show _ = some (.bool nb) from rfl)
     have q4 := (jJ HA7.out 1).trans (show _ = some (.slice A1 a.length c1) from rfl)
     have q5 := (jJ HA7.out 2).trans (show _ = some (.slice A2 b2.length c2) from rfl)
     go_wp2_with fail
     have RC1 := jA.mk (Kd.jF HR7.out)
     have RC2 := jA.mk (Kd.jF HQ7.out)
     clear q0 f0 q1 f1 q2 f2 q3 q4 q5
     generalize w6.setCell ⟨w.heap.size, 2, none⟩ (.slice A2 b2.length c2) = W7 at HB7 HA7 HW7 HR7 HQ7 HZ7 RC1 RC2 ⊢
     refine (qZ.calls k nb A1 c1 a A2 c2 b2 m W7 RC1.out.2.2 RC1.out.2.1 RC2.out.2.2 RC2.out.2.1 HM.out).mono ?_
     rintro e w8 ⟨rfl, hb8⟩
     have HA8 := jA.mk (vw HA7.out hb8)
     have HB8 := jA.mk (vw HB7.out hb8)
     have HW8 := jA.mk (HW7.out.trans (hb8.mono (by have := HZ7.out; have := HG.out; omega)))
     have HR8 := jA.mk (Kd.qd HR7.out hb8)
     have HQ8 := jA.mk (Kd.qd HQ7.out hb8)
     clear hb8 HB7 HA7 HW7 HR7 HQ7 RC1 RC2 HM
     go_wp2_with fail
     cases m with
     | false =>
      have hh := HH.out
      cases hh
      refine (jBu _).mono ?_
      rintro e w9 ⟨rfl, rfl⟩
      exact ⟨rfl, rfl, HW8.out⟩
     | true =>
      have hh := HH.out
      cases hh
      refine (jAk _).mono ?_
      rintro e w9 ⟨rfl, rfl⟩
      have q3 := (jJ HA8.out 0).trans (show _ = some (.bool nb) from rfl)
      have q4 := (jJ HA8.out 1).trans (show _ = some (.slice A1 a.length c1) from rfl)
      have q5 := (jJ HA8.out 2).trans (show _ = some (.slice A2 b2.length c2) from rfl)
      have f3 := jT HA8.out 0
      have f4 := jT HA8.out 1
      have f5 := jT HA8.out 2
      go_wp2
      refine bodyPost_ret (results_cell_row rfl _ _ w.heap.size 44 #[.bool nb, .slice A1 a.length c1, .slice A2 b2.length c2] (0, 0) _ rfl (by refine jw (cs := #[.bool nb, .slice A1 a.length c1, .slice A2 b2.length c2]) ?_ 2 _ rs_; refine jw (cs := #[.bool nb, .slice A1 a.length c1, .slice A2 b2.length c2]) ?_ 1 _ rs_; refine jw (cs := #[.bool nb, .slice A1 a.length c1, .slice A2 b2.length c2]) ?_ 0 _ rs_; exact HA8.out) Try.underlying44 rfl kr_) rfl ?_
      refine ⟨_, _, rfl, ((HW8.out.setCell (p := ⟨w.heap.size, 0, none⟩) (Nat.le_of_lt HG.out) _).setCell (p := ⟨w.heap.size, 1, none⟩) (Nat.le_of_lt HG.out) _).setCell (p := ⟨w.heap.size, 2, none⟩) (Nat.le_of_lt HG.out) _, ?_, ?_, ?_⟩
      ·
       exact jd (p := ⟨w.heap.size, 2, none⟩) (jd (p := ⟨w.heap.size, 1, none⟩) (jd (p := ⟨w.heap.size, 0, none⟩) HB8.out hgs.symm _) hgs.symm _) hgs.symm _
      ·
       refine Kd.jk (Kd.qX (p := ⟨w.heap.size, 2, none⟩) (Kd.qX (p := ⟨w.heap.size, 1, none⟩) (Kd.qX (p := ⟨w.heap.size, 0, none⟩) HR8.out (fun k_ hk_ => by have := hk_.1; show k_ ≠ w.heap.size; omega) _) (fun k_ hk_ => by have := hk_.1; show k_ ≠ w.heap.size; omega) _) (fun k_ hk_ => by have := hk_.1; show k_ ≠ w.heap.size; omega) _) (fun k_ hk_ e_ => ?_)
       have h1_ := HQ8.out.1 k_ e_.symm
       have h2_ := hk_.2
       omega
      ·
       refine Kd.jk (Kd.qX (p := ⟨w.heap.size, 2, none⟩) (Kd.qX (p := ⟨w.heap.size, 1, none⟩) (Kd.qX (p := ⟨w.heap.size, 0, none⟩) HQ8.out (fun k_ hk_ => by have := HZ5.out; show k_ ≠ w.heap.size; omega) _) (fun k_ hk_ => by have := HZ5.out; show k_ ≠ w.heap.size; omega) _) (fun k_ hk_ => by have := HZ5.out; show k_ ≠ w.heap.size; omega) _) (fun k_ hk_ e_ => ?_)
       have h1_ := (HR8.out.1 k_ e_.symm).2
       omega
end OctRat

/-! ### zA: function 44 -/
namespace zA
open Oct
set_option maxHeartbeats 4000000 in
theorem jJv (g q : Nat) (x0 x1 x2 y : Value) (w : World) (hp : w.heap[g]? = some (.cells #[x0, x1, x2] 44 (0, 0))) (hq : w.heap[q]? = some (.cells #[y] 9 (0, 0))) (hne : q ≠ g) :
  Calls Try.prog 83 #[.pointer (some ⟨g, 0, none⟩), .pointer (some ⟨q, 0, none⟩)] w fun e w' => e = .returned (.tuple #[]) ∧ w' = (((w.setCell ⟨g, 0, none⟩ (.bool false)).setCell ⟨g, 1, none⟩ (.slice none 0 0)).setCell ⟨g, 2, none⟩ (.slice none 0 0)).setCell ⟨q, 0, none⟩ (.string { data := #[] }) := by
 have z0 := (jJ hp 0).trans (show _ = some x0 from rfl)
 have z1 := (jJ hp 1).trans (show _ = some x1 from rfl)
 have z2 := (jJ hp 2).trans (show _ = some x2 from rfl)
 have f0 := jT hp 0
 have f1 := jT hp 1
 have f2 := jT hp 2
 have hq' := (jd (p := ⟨g, 2, none⟩) (jd (p := ⟨g, 1, none⟩) (jd (p := ⟨g, 0, none⟩) hq hne (.bool false)) hne (.slice none 0 0)) hne (.slice none 0 0))
 have y0 := (jJ hq' 0).trans (show _ = some y from rfl)
 have g0 := jT hq' 0
 clear hp hq hq'
 go_enter Try.func83, Try.ntmps83
 go_wp2
 go_end0
 exact ⟨rfl, rfl⟩
def W4 (s : ByteArray) (w : World) : World := (((w.alloc (.cells #[.bool false, .slice none 0 0, .slice none 0 0] 44)).alloc (.cells #[.string { data := #[] }] 9)).alloc (.cells #[.int .i64 0] 28)).alloc (.cells #[.string s] 86)
theorem qO (w : World) (o : Obj) : (w.alloc o).heap.size = w.heap.size + 1 := Array.size_push _
theorem w4_0 (s : ByteArray) (w : World) : (W4 s w).heap[w.heap.size]? = some (.cells #[.bool false, .slice none 0 0, .slice none 0 0] 44 (0, 0)) := vP (vP (vP (qE _ _) _) _) _
theorem w4_1 (s : ByteArray) (w : World) : (W4 s w).heap[w.heap.size + 1]? = some (.cells #[.string { data := #[] }] 9 (0, 0)) := by rw [← qO w (.cells #[.bool false, .slice none 0 0, .slice none 0 0] 44)]; exact vP (vP (qE _ _) _) _
theorem w4_2 (s : ByteArray) (w : World) : (W4 s w).heap[w.heap.size + 1 + 1]? = some (.cells #[.int .i64 0] 28 (0, 0)) := by rw [← qO w (.cells #[.bool false, .slice none 0 0, .slice none 0 0] 44), ← qO _ (.cells #[.string { data := #[] }] 9)]; exact vP (qE _ _) _
theorem w4_3 (s : ByteArray) (w : World) : (W4 s w).heap[w.heap.size + 1 + 1 + 1]? = some (.cells #[.string s] 86 (0, 0)) := by rw [← qO w (.cells #[.bool false, .slice none 0 0, .slice none 0 0] 44), ← qO _ (.cells #[.string { data := #[] }] 9), ← qO _ (.cells #[.int .i64 0] 28)]; exact qE _ _
theorem jFm (s : ByteArray) (w : World) : (W4 s w).heap.size = w.heap.size + 1 + 1 + 1 + 1 := by unfold W4; rw [qO, qO, qO, qO]
theorem jEo (s : ByteArray) (w : World) : Below w.heap.size w (W4 s w) :=
 jy (jy (jy (jy (Below.refl _ w) _) _) _) _

theorem jKZ (k : Nat) (s : ByteArray) (w : World) (c : Int) (hn : OctRat.rat_ k s = some (.inl c)) (hz : s.size ≤ 140737488351232) :
  Calls Try.prog 44 #[.string s] w fun e w' => e = .returned (.tuple #[.agg #[.bool false, .slice none 0 0, .slice none 0 0], .string { data := #[] }, .int .i64 c]) ∧ Below w.heap.size w w' := by
 have hmf : ∀ (fn : Fn) (first cap : Array Value) (w : World), (Instr.makeFunc fn first cap).run Try.prog w = .ok (.func fn first cap) w := fun _ _ _ _ => rfl
 have H0 := jA.mk (w4_0 s w)
 have H1 := jA.mk (w4_1 s w)
 have H2 := jA.mk (w4_2 s w)
 have H3 := jA.mk (w4_3 s w)
 have HW := jA.mk (jEo s w)
 have HZ := jA.mk (jFm s w)
 have HN := jA.mk hn
 clear hn
 go_enter_defers Try.func44, Try.ntmps44
 go_wp2_with fail
 refine (show Calls Try.prog 84 _ (W4 s w) (OctRat.jJi _ (W4 s w) _) from OctRat.jKH k _ s _ _ H3.out hz HN.out).mono ?_
 generalize W4 s w = W at H0 H1 H2 H3 HW HZ ⊢
 rintro e w1 ⟨rfl, hb⟩
 have C0 := jA.mk ((hb.block _ (by omega)).trans H0.out)
 have C1 := jA.mk ((hb.block _ (by omega)).trans H1.out)
 have C2 := jA.mk ((hb.block _ (by omega)).trans H2.out)
 have CB := jA.mk (HW.out.trans (hb.mono (by omega)))
 clear hb
 show bodyPostD Try.prog Try.f44 _ (Exit.panic _) _ _
 unfold bodyPostD pan
 refine leaves_cons (f := 59) (args := #[.pointer (some ⟨w.heap.size + 1 + 1, 0, none⟩), .func (.func 83) #[] #[.pointer (some ⟨w.heap.size, 0, none⟩), .pointer (some ⟨w.heap.size + 1, 0, none⟩)]]) (by simp) kr_ ?_
 have D0 := jd (p := ⟨w.heap.size + 1 + 1, 0, none⟩) C0.out (by simp; omega) (.int .i64 c)
 have D1 := jd (p := ⟨w.heap.size + 1 + 1, 0, none⟩) C1.out (by simp) (.int .i64 c)
 have DB := (CB.out.setCell (p := ⟨w.heap.size + 1 + 1, 0, none⟩) (by simp; omega) (.int .i64 c))
 have HU := jJv w.heap.size (w.heap.size + 1) _ _ _ _ _ D0 D1 (by omega)
 have DU := (((DB.setCell (p := ⟨w.heap.size, 0, none⟩) (by simp) (.bool false)).setCell (p := ⟨w.heap.size, 1, none⟩) (by simp) (.slice none 0 0)).setCell (p := ⟨w.heap.size, 2, none⟩) (by simp) (.slice none 0 0)).setCell (p := ⟨w.heap.size + 1, 0, none⟩) (by simp) (.string { data := #[] })
 have E2 := jd (p := ⟨w.heap.size + 1, 0, none⟩) (jd (p := ⟨w.heap.size, 2, none⟩) (jd (p := ⟨w.heap.size, 1, none⟩) (jd (p := ⟨w.heap.size, 0, none⟩) (jw (cs' := #[.int .i64 c]) C2.out 0 (.int .i64 c) rfl) (by simp; omega) (.bool false)) (by simp; omega) (.slice none 0 0)) (by simp; omega) (.slice none 0 0)) (by simp) (.string { data := #[] })
 have E0 := jd (p := ⟨w.heap.size + 1, 0, none⟩) (jw (cs' := #[.bool false, .slice none 0 0, .slice none 0 0]) (jw (cs' := #[.bool false, .slice none 0 0, .slice none 0 0]) (jw (cs' := #[.bool false, .slice none 0 0, .slice none 0 0]) D0 0 (.bool false) rfl) 1 (.slice none 0 0) rfl) 2 (.slice none 0 0) rfl) (by simp) (.string { data := #[] })
 have E1 := jw (cs' := #[.string { data := #[] }]) (jd (p := ⟨w.heap.size, 2, none⟩) (jd (p := ⟨w.heap.size, 1, none⟩) (jd (p := ⟨w.heap.size, 0, none⟩) D1 (by simp) (.bool false)) (by simp) (.slice none 0 0)) (by simp) (.slice none 0 0)) 0 (.string { data := #[] }) rfl
 refine (jAY ⟨w.heap.size + 1 + 1, 0, none⟩ 0 c 83 Try.f83 _ [] w1 _ ((jJ C2.out 0).trans rfl) (jT C2.out 0) (fun _ _ => kr_) HU).mono ?_
 rintro e u' w'' ⟨rfl, rfl, rfl⟩
 have F2 := (jJ E2 0).trans (show _ = some (.int .i64 c) from rfl)
 have F0 := (jJ E0 0).trans (show _ = some (.bool false) from rfl)
 have F0a := (jJ E0 1).trans (show _ = some (.slice none 0 0) from rfl)
 have F0b := (jJ E0 2).trans (show _ = some (.slice none 0 0) from rfl)
 have F1 := (jJ E1 0).trans (show _ = some (.string { data := #[] }) from rfl)
 clear E0 E1 E2 HU D0 D1 DB
 generalize ((((w1.setCell ⟨w.heap.size + 1 + 1, 0, none⟩ (.int .i64 c)).setCell ⟨w.heap.size, 0, none⟩ (.bool false)).setCell ⟨w.heap.size, 1, none⟩ (.slice none 0 0)).setCell ⟨w.heap.size, 2, none⟩ (.slice none 0 0)).setCell ⟨w.heap.size + 1, 0, none⟩ (.string { data := #[] }) = w3 at DU F0 F0a F0b F1 F2 ⊢
 have hu := Try.underlying44
 simp [Leaves, settle, results, Try.results44, go_sem, F0, F0a, F0b, F1, F2]
 exact DU

theorem jJU (k : Nat) (s : ByteArray) (w : World) (n : Bool) (a b : List Int) (t : ByteArray) (hn : OctRat.rat_ k s = some (.inr (n, a, b, t))) (hz : s.size ≤ 140737488351232) :
  Calls Try.prog 44 #[.string s] w fun e w' => ∃ u1 u2 : Value, e = .returned (.tuple #[.agg #[.bool n, u1, u2], .string t, .int .i64 0]) ∧ Kd.R (Kd.int .u64) 22 w' w.heap.size (fun k_ => some k_ ≠ (u2 : Value).ownBlock) u1 a ∧ Kd.R (Kd.int .u64) 22 w' w.heap.size (fun k_ => some k_ ≠ (u1 : Value).ownBlock) u2 b ∧ Below w.heap.size w w' := by
 have hmf : ∀ (fn : Fn) (first cap : Array Value) (w : World), (Instr.makeFunc fn first cap).run Try.prog w = .ok (.func fn first cap) w := fun _ _ _ _ => rfl
 have H0 := jA.mk (w4_0 s w)
 have H1 := jA.mk (w4_1 s w)
 have H2 := jA.mk (w4_2 s w)
 have H3 := jA.mk (w4_3 s w)
 have HW := jA.mk (jEo s w)
 have HZ := jA.mk (jFm s w)
 have HN := jA.mk hn
 clear hn
 go_enter_defers Try.func44, Try.ntmps44
 go_wp2_with fail
 refine (show Calls Try.prog 84 _ (W4 s w) (OctRat.jJi _ (W4 s w) _) from OctRat.jKH k _ s _ _ H3.out hz HN.out).mono ?_
 generalize W4 s w = W at H0 H1 H2 H3 HW HZ ⊢
 rintro e w1 ⟨u1, u2, rfl, hb, h3, hr1, hr2⟩
 clear HN
 obtain ⟨A1, c1, rfl⟩ := Kd.jm hr1
 obtain ⟨A2, c2, rfl⟩ := Kd.jm hr2
 have C0 := (hb.block _ (by omega)).trans H0.out
 have C1 := (hb.block _ (by omega)).trans H1.out
 have C2 := (hb.block _ (by omega)).trans H2.out
 have CB := HW.out.trans (hb.mono (by omega))
 have X0 := (jJ C0 0).trans (show _ = some (.bool false) from rfl)
 have X0a := (jJ C0 1).trans (show _ = some (.slice none 0 0) from rfl)
 have X0b := (jJ C0 2).trans (show _ = some (.slice none 0 0) from rfl)
 have Z0 := jT C0 0
 have Z0a := jT C0 1
 have Z0b := jT C0 2
 have HZ0 := HZ
 have G1 := Kd.jU (base' := w.heap.size) (Kd.jk (ok' := fun k_ => w.heap.size + 1 + 1 + 1 + 1 ≤ k_ ∧ some k_ ≠ (.slice A2 b.length c2 : Value).ownBlock) (Kd.qY hr1) (fun k_ hk_ => ⟨HZ0.out ▸ hk_.2.1, hk_.1⟩)) (show w.heap.size ≤ W.heap.size by have := HZ0.out; omega)
 have G2 := Kd.jU (base' := w.heap.size) (Kd.jk (ok' := fun k_ => w.heap.size + 1 + 1 + 1 + 1 ≤ k_ ∧ some k_ ≠ (.slice A1 a.length c1 : Value).ownBlock) (Kd.qY hr2) (fun k_ hk_ => ⟨HZ0.out ▸ hk_.2.1, hk_.1⟩)) (show w.heap.size ≤ W.heap.size by have := HZ0.out; omega)
 clear hb HW H0 H1 H2 H3 HZ hr1 hr2
 have D0 := jA.mk (jw (cs' := #[.bool n, .slice A1 a.length c1, .slice A2 b.length c2]) (jw (cs' := #[.bool n, .slice A1 a.length c1, .slice none 0 0]) (jw (cs' := #[.bool n, .slice none 0 0, .slice none 0 0]) C0 0 (.bool n) rfl) 1 (.slice A1 a.length c1) rfl) 2 (.slice A2 b.length c2) rfl)
 have D1 := jA.mk (jd (p := ⟨w.heap.size, 2, none⟩) (jd (p := ⟨w.heap.size, 1, none⟩) (jd (p := ⟨w.heap.size, 0, none⟩) C1 (by simp) (.bool n)) (by simp) (.slice A1 a.length c1)) (by simp) (.slice A2 b.length c2))
 have D2 := jA.mk (jd (p := ⟨w.heap.size, 2, none⟩) (jd (p := ⟨w.heap.size, 1, none⟩) (jd (p := ⟨w.heap.size, 0, none⟩) C2 (by simp; omega) (.bool n)) (by simp; omega) (.slice A1 a.length c1)) (by simp; omega) (.slice A2 b.length c2))
 have D3 := jA.mk (jd (p := ⟨w.heap.size, 2, none⟩) (jd (p := ⟨w.heap.size, 1, none⟩) (jd (p := ⟨w.heap.size, 0, none⟩) h3 (by simp; omega) (.bool n)) (by simp; omega) (.slice A1 a.length c1)) (by simp; omega) (.slice A2 b.length c2))
 have DB := jA.mk (((CB.setCell (p := ⟨w.heap.size, 0, none⟩) (by simp) (.bool n)).setCell (p := ⟨w.heap.size, 1, none⟩) (by simp) (.slice A1 a.length c1)).setCell (p := ⟨w.heap.size, 2, none⟩) (by simp) (.slice A2 b.length c2))
 have HV1 := jA.mk (Kd.qX (p := ⟨w.heap.size, 2, none⟩) (Kd.qX (p := ⟨w.heap.size, 1, none⟩) (Kd.qX (p := ⟨w.heap.size, 0, none⟩) G1 (fun k_ hk_ => by have := hk_.1; show k_ ≠ w.heap.size; omega) (.bool n)) (fun k_ hk_ => by have := hk_.1; show k_ ≠ w.heap.size; omega) (.slice A1 a.length c1)) (fun k_ hk_ => by have := hk_.1; show k_ ≠ w.heap.size; omega) (.slice A2 b.length c2))
 have HV2 := jA.mk (Kd.qX (p := ⟨w.heap.size, 2, none⟩) (Kd.qX (p := ⟨w.heap.size, 1, none⟩) (Kd.qX (p := ⟨w.heap.size, 0, none⟩) G2 (fun k_ hk_ => by have := hk_.1; show k_ ≠ w.heap.size; omega) (.bool n)) (fun k_ hk_ => by have := hk_.1; show k_ ≠ w.heap.size; omega) (.slice A1 a.length c1)) (fun k_ hk_ => by have := hk_.1; show k_ ≠ w.heap.size; omega) (.slice A2 b.length c2))
 clear C0 C1 C2 CB h3 G1 G2 HZ0
 go_wp2
 generalize (((w1.setCell ⟨w.heap.size, 0, none⟩ (.bool n)).setCell ⟨w.heap.size, 1, none⟩ (.slice A1 a.length c1)).setCell ⟨w.heap.size, 2, none⟩ (.slice A2 b.length c2)) = v0 at D0 D1 D2 D3 DB HV1 HV2 ⊢
 refine jDI ?_
 refine jAc (n := 8) (S := fun w' => w'.heap[w.heap.size]? = some (.cells #[.bool n, .slice A1 a.length c1, .slice A2 b.length c2] 44 (0, 0)) ∧ w'.heap[w.heap.size + 1]? = some (.cells #[.string { data := #[] }] 9 (0, 0)) ∧ w'.heap[w.heap.size + 1 + 1]? = some (.cells #[.int .i64 0] 28 (0, 0)) ∧ w'.heap[w.heap.size + 1 + 1 + 1]? = some (.cells #[.string t] 86 (0, 0)) ∧ Below w.heap.size w w' ∧ Kd.R (Kd.int .u64) 22 w' w.heap.size (fun k_ => w.heap.size + 1 + 1 + 1 + 1 ≤ k_ ∧ some k_ ≠ (.slice A2 b.length c2 : Value).ownBlock) (.slice A1 a.length c1) a ∧ Kd.R (Kd.int .u64) 22 w' w.heap.size (fun k_ => w.heap.size + 1 + 1 + 1 + 1 ≤ k_ ∧ some k_ ≠ (.slice A1 a.length c1 : Value).ownBlock) (.slice A2 b.length c2) b) (ds := [6, 7]) #[false, false, false, false, false, false, false, false] kr_ rfl rfl ⟨vk D0.out, vk D1.out, vk D2.out, vk D3.out, ze DB.out, Kd.zM HV1.out, Kd.zM HV2.out⟩ (fun hHeld => ?_)
 generalize v0.drew = u0 at hHeld ⊢
 clear D0 D1 D2 D3 DB HV1 HV2
 refine jBM (i := 0) (N := some 12) (v := ?_) (a' := ?_) (ba_ 8 1) rfl rfl kr_ (fun _ _ _ h => h) (Or.inl ⟨by rfl, ?_⟩) hHeld ?_ ?_
 rotate_left
 ·
  rintro w' ⟨s0_, s1_, s2_, s3_, s4_, s5_, s6_⟩
  have hc := (jJ s0_ 0).trans (show _ = some (.bool n) from rfl)
  have hca := (jJ s0_ 1).trans (show _ = some (.slice A1 a.length c1) from rfl)
  have hcb := (jJ s0_ 2).trans (show _ = some (.slice A2 b.length c2) from rfl)
  go_simp
  with_reducible rfl
 rotate_left
 ·
  simp only [Act.put, ss_, zF, zW]
  rfl
 refine pu_ 1 (some 13) (ba_ 8 3) kr_ ?_
 refine pu_ 2 (some 14) (ba_ 8 7) kr_ ?_
 refine pu_ 3 (some 15) (ba_ 8 15) kr_ ?_
 refine jBM (i := 4) (N := some 16) (v := ?_) (a' := ?_) (ba_ 8 31) rfl rfl kr_ (fun _ _ _ h => h) (Or.inl ⟨by rfl, ?_⟩) hHeld ?_ ?_
 rotate_left
 ·
  rintro w' ⟨s0_, s1_, s2_, s3_, s4_, s5_, s6_⟩
  have hc := (jJ s3_ 0).trans (show _ = some (.string t) from rfl)
  go_simp
  with_reducible rfl
 rotate_left
 ·
  simp only [Act.put, ss_, zF, zW]
  rfl
 obtain ⟨s0_, s1_, s2_, s3_, s4_, s5_, s6_⟩ := hHeld
 refine one_ (i := 5) (N := none) (ba_ 8 63) rfl rfl kr_ (by decide) (fun K hK => ?_)
 have hc := (jJ s0_ 0).trans (show _ = some (.bool n) from rfl)
 have hca := (jJ s0_ 1).trans (show _ = some (.slice A1 a.length c1) from rfl)
 have hcb := (jJ s0_ 2).trans (show _ = some (.slice A2 b.length c2) from rfl)
 have hf := jT s0_ 0
 have hfa := jT s0_ 1
 have hfb := jT s0_ 2
 refine jAu (w1 := ?_) (by rfl) rfl ?_ ?_
 rotate_left
 ·
  go_simp
  rfl
 refine hK.out _ _ ⟨(jw (cs' := #[.bool n, .slice A1 a.length c1, .slice A2 b.length c2]) (jw (cs' := #[.bool n, .slice A1 a.length c1, .slice A2 b.length c2]) (jw (cs' := #[.bool n, .slice A1 a.length c1, .slice A2 b.length c2]) s0_ 0 (.bool n) rfl) 1 (.slice A1 a.length c1) rfl) 2 (.slice A2 b.length c2) rfl), (jd (p := ⟨w.heap.size, 2, none⟩) (jd (p := ⟨w.heap.size, 1, none⟩) (jd (p := ⟨w.heap.size, 0, none⟩) s1_ (by simp) (.bool n)) (by simp) (.slice A1 a.length c1)) (by simp) (.slice A2 b.length c2)), (jd (p := ⟨w.heap.size, 2, none⟩) (jd (p := ⟨w.heap.size, 1, none⟩) (jd (p := ⟨w.heap.size, 0, none⟩) s2_ (by simp; omega) (.bool n)) (by simp; omega) (.slice A1 a.length c1)) (by simp; omega) (.slice A2 b.length c2)), (jd (p := ⟨w.heap.size, 2, none⟩) (jd (p := ⟨w.heap.size, 1, none⟩) (jd (p := ⟨w.heap.size, 0, none⟩) s3_ (by simp; omega) (.bool n)) (by simp; omega) (.slice A1 a.length c1)) (by simp; omega) (.slice A2 b.length c2)), (((s4_.setCell (p := ⟨w.heap.size, 0, none⟩) (by simp) (.bool n)).setCell (p := ⟨w.heap.size, 1, none⟩) (by simp) (.slice A1 a.length c1)).setCell (p := ⟨w.heap.size, 2, none⟩) (by simp) (.slice A2 b.length c2)), (Kd.qX (p := ⟨w.heap.size, 2, none⟩) (Kd.qX (p := ⟨w.heap.size, 1, none⟩) (Kd.qX (p := ⟨w.heap.size, 0, none⟩) s5_ (fun k_ hk_ => by have := hk_.1; show k_ ≠ w.heap.size; omega) (.bool n)) (fun k_ hk_ => by have := hk_.1; show k_ ≠ w.heap.size; omega) (.slice A1 a.length c1)) (fun k_ hk_ => by have := hk_.1; show k_ ≠ w.heap.size; omega) (.slice A2 b.length c2)), (Kd.qX (p := ⟨w.heap.size, 2, none⟩) (Kd.qX (p := ⟨w.heap.size, 1, none⟩) (Kd.qX (p := ⟨w.heap.size, 0, none⟩) s6_ (fun k_ hk_ => by have := hk_.1; show k_ ≠ w.heap.size; omega) (.bool n)) (fun k_ hk_ => by have := hk_.1; show k_ ≠ w.heap.size; omega) (.slice A1 a.length c1)) (fun k_ hk_ => by have := hk_.1; show k_ ≠ w.heap.size; omega) (.slice A2 b.length c2))⟩ (fun hHeld => ?_)
 clear hK K
 clear hc hca hcb hf hfa hfb
 obtain ⟨s0_, s1_, s2_, s3_, s4_, s5_, s6_⟩ := hHeld
 refine jBS (i := 6) (N := none) (ba_ 8 127) rfl rfl kr_ (by decide) (fun K hK => ?_)
 have hc := (jJ s1_ 0).trans (show _ = some (.string { data := #[] }) from rfl)
 have hf := jT s1_ 0
 refine jAu (w1 := ?_) (by rfl) rfl ?_ ?_
 rotate_left
 ·
  go_simp
  rfl
 refine hK.out _ _ ?_
 clear hK K
 have e0 := jd (p := ⟨w.heap.size + 1, 0, none⟩) s0_ (by simp) (.string t)
 have e1 := jw (cs' := #[.string t]) s1_ 0 (.string t) rfl
 have e2 := jd (p := ⟨w.heap.size + 1, 0, none⟩) s2_ (by simp) (.string t)
 have e4 := s4_.setCell (p := ⟨w.heap.size + 1, 0, none⟩) (by simp) (.string t)
 have c2_ := (jJ s2_ 0).trans (show _ = some (.int .i64 0) from rfl)
 have z2 := jT s2_ 0
 have e5 := (Kd.qX (p := ⟨w.heap.size + 1, 0, none⟩) s5_ (fun k_ hk_ => by have := hk_.1; show k_ ≠ w.heap.size + 1; omega) (.string t))
 have e6 := (Kd.qX (p := ⟨w.heap.size + 1, 0, none⟩) s6_ (fun k_ hk_ => by have := hk_.1; show k_ ≠ w.heap.size + 1; omega) (.string t))
 clear s0_ s1_ s2_ s3_ s4_ s5_ s6_
 refine jBS (i := 7) (N := none) (ba_ 8 255) rfl rfl kr_ (by decide) (fun K hK => ?_)
 have hc := (jJ e2 0).trans (show _ = some (.int .i64 0) from rfl)
 have hf := jT e2 0
 refine jAu (w1 := ?_) (by rfl) rfl ?_ ?_
 rotate_left
 ·
  go_simp
  rfl
 refine hK.out _ _ ?_
 clear hK K
 have ff0 := (jd (p := ⟨w.heap.size + 1 + 1, 0, none⟩) e0 (by simp; omega) (.int .i64 0))
 have f0 := (jJ ff0 0).trans (show _ = some (.bool n) from rfl)
 have f0a := (jJ ff0 1).trans (show _ = some (.slice A1 a.length c1) from rfl)
 have f0b := (jJ ff0 2).trans (show _ = some (.slice A2 b.length c2) from rfl)
 have f1 := (jJ (jd (p := ⟨w.heap.size + 1 + 1, 0, none⟩) e1 (by simp) (.int .i64 0)) 0).trans (show _ = some (.string t) from rfl)
 have f2 := (jJ (jw (cs' := #[.int .i64 0]) e2 0 (.int .i64 0) rfl) 0).trans (show _ = some (.int .i64 0) from rfl)
 have f4 := e4.setCell (p := ⟨w.heap.size + 1 + 1, 0, none⟩) (by simp; omega) (.int .i64 0)
 have f5 := (Kd.qX (p := ⟨w.heap.size + 1 + 1, 0, none⟩) e5 (fun k_ hk_ => by have := hk_.1; show k_ ≠ w.heap.size + 1 + 1; omega) (.int .i64 0))
 have f6 := (Kd.qX (p := ⟨w.heap.size + 1 + 1, 0, none⟩) e6 (fun k_ hk_ => by have := hk_.1; show k_ ≠ w.heap.size + 1 + 1; omega) (.int .i64 0))
 clear e0 e1 e2 e4 e5 e6 ff0
 refine jBZ kr_ ?_
 refine jAU ?_
 refine (‹∀ (a : Act) (w : World), Code.wp Try.prog Code.ret _ a w → _›) _ _ ?_
 clear hc hf c2_ z2 X0 X0a X0b Z0 Z0a Z0b
 go_wp2
 generalize ((((u0.setCell ⟨w.heap.size, 0, none⟩ (.bool n)).setCell ⟨w.heap.size, 1, none⟩ (.slice A1 a.length c1)).setCell ⟨w.heap.size, 2, none⟩ (.slice A2 b.length c2)).setCell ⟨w.heap.size + 1, 0, none⟩ (.string t)).setCell ⟨w.heap.size + 1 + 1, 0, none⟩ (.int .i64 0) = w3 at f0 f0a f0b f1 f2 f4 f5 f6 ⊢
 unfold bodyPostD
 refine leaves_cons (f := 59) (args := #[.pointer (some ⟨w.heap.size + 1 + 1, 0, none⟩), .func (.func 83) #[] #[.pointer (some ⟨w.heap.size, 0, none⟩), .pointer (some ⟨w.heap.size + 1, 0, none⟩)]]) (by simp) kr_ ?_
 refine (jBG _ _ _).mono ?_
 rintro e u' w'' ⟨rfl, rfl, rfl⟩
 have hu := Try.underlying44
 simp [Leaves, settle, results, Try.results44, go_sem, f0, f0a, f0b, f1, f2]
 refine ⟨.slice A1 a.length c1, .slice A2 b.length c2, by first | rfl | exact ⟨rfl, rfl⟩ | simp, Kd.jk f5 (fun _ h_ => h_.2), Kd.jk f6 (fun _ h_ => h_.2), f4⟩
end zA

def zA.f (k : Nat) (a0 : ByteArray) : Option (Bool × List Int × List Int × ByteArray × Int) := if a0.size ≤ 140737488351232 then ((OctRat.rat_ k a0).bind fun v_ => some (match v_ with | .inl c => (false, [], [], { data := #[] }, c) | .inr (n, a, b, t) => (n, a, b, t, 0))) else none
theorem zA.mono : ∀ a0 k, LeO (zA.f k a0) (zA.f (k + 1) a0) := by
 intro a0 k
 unfold zA.f
 exact LeO.ite (LeO.bind (OctRat.jHo a0 k) fun _ => LeO.refl _) (LeO.refl _)
theorem zA.calls (k : Nat) (a0 : ByteArray) (r1 : Bool) (r2 : List Int) (r3 : List Int) (r4 : ByteArray) (r5 : Int) (w : World) (h : zA.f k a0 = some (r1, r2, r3, r4, r5)) :
  Calls Try.prog 44 #[.string a0] w fun e w' => ∃ v1_ v2_ : Value, e = .returned (.tuple #[.agg #[.bool r1, v1_, v2_], .string r4, .int .i64 r5]) ∧ Kd.R (Kd.int .u64) 22 w' w.heap.size (fun k_ => some k_ ≠ (v2_ : Value).ownBlock) v1_ r2 ∧ Kd.R (Kd.int .u64) 22 w' w.heap.size (fun k_ => some k_ ≠ (v1_ : Value).ownBlock) v2_ r3 ∧ Below w.heap.size w w' := by
 unfold zA.f at h
 by_cases hz : a0.size ≤ 140737488351232
 ·
  rw [if_pos hz] at h
  obtain ⟨v, hv, h⟩ := Option.bind_eq_some_iff.mp h
  cases v with
  | inl c =>
   cases h
   refine (zA.jKZ k a0 w _ hv hz).mono ?_
   rintro e w' ⟨he, hb⟩
   exact ⟨_, _, he, Kd.jCA _ _ _ _ _, Kd.jCA _ _ _ _ _, hb⟩
  | inr p =>
   obtain ⟨n, a, b, t⟩ := p
   cases h
   exact zA.jJU k a0 w _ _ _ _ hv hz
 ·
  rw [if_neg hz] at h; cases h

/-! ### jX: function 25 -/
def jX.l0 : Nat → List Int → Int → Option (List Int)
 | 0, _, _ => none
 | k + 1, x0, x3 => if x3 > 0 then (if 0 ≤ (wrap64 (x3 - 1)) then (if (wrap64 (x3 - 1)) < (x0.length : Int) then (if (rd x0 (wrap64 (x3 - 1))) = 0 then (jX.l0 k x0 (wrap64 (x3 - 1))) else ((some (([] : List Int) : List Int)).bind fun y307 => (if 0 ≤ x3 then (if x3 ≤ (x0.length : Int) then (if y307.length + (x0.take (x3 : Int).toNat).length < 17592186044416 then (some (y307 ++ (x0.take (x3 : Int).toNat))) else (none)) else (none)) else (none)))) else (none)) else (none)) else ((some (([] : List Int) : List Int)).bind fun y314 => (if 0 ≤ x3 then (if x3 ≤ (x0.length : Int) then (if y314.length + (x0.take (x3 : Int).toNat).length < 17592186044416 then (some (y314 ++ (x0.take (x3 : Int).toNat))) else (none)) else (none)) else (none)))
def jX.f (k : Nat) (l0 : List Int) : Option (List Int) := jX.l0 k l0 (l0.length : Int)
theorem jX.vN : ∀ k, (∀ y0 y1, LeO (jX.l0 k y0 y1) (jX.l0 (k + 1) y0 y1))
 | 0 => fun _ _ r h => by simp [jX.l0] at h
 | k + 1 => by
  have ih0 := jX.vN k
  ·
   intro y0 y1
   unfold jX.l0
   repeat' first
   | (with_reducible exact ih0 _ _)
   | (with_reducible exact LeO.refl _)
   | (with_reducible exact LeO.none _)
   | (with_reducible refine LeO.ite ?_ ?_)
   | (with_reducible refine LeO.bind ?_ (fun _ => ?_))
theorem jX.mono : ∀ a0 k, LeO (jX.f k a0) (jX.f (k + 1) a0) := by
 intro a0 k
 have ih0 := jX.vN k
 unfold jX.f
 repeat' first
   | (with_reducible exact ih0 _ _)
   | (with_reducible exact LeO.refl _)
   | (with_reducible exact LeO.none _)
   | (with_reducible refine LeO.ite ?_ ?_)
   | (with_reducible refine LeO.bind ?_ (fun _ => ?_))
theorem jX.calls (k : Nat) (A0 : Option Addr) (c0 : Nat) (l0 : List Int) (r : List Int) (w : World) (hr0 : Kd.C (Kd.int .u64) w A0 l0.length l0) (hc0 : l0.length ≤ c0) (h : jX.f k l0 = some r) :
  Calls Try.prog 25 #[.slice A0 l0.length c0] w fun e w' => ∃ v0_ : Value, e = .returned (v0_) ∧ Kd.R (Kd.int .u64) 22 w' w.heap.size (fun _ => True) v0_ r ∧ Below w.heap.size w w' := by
 have HR0 := jA.mk hr0
 have HC0 := jA.mk hc0
 clear hr0 hc0
 have HB := jA.mk (Below.refl w.heap.size w)
 have H : (jX.l0 k l0 (l0.length : Int)) = some r := h
 clear h
 have H' := jA.mk H
 clear H
 go_enter Try.func25, Try.ntmps25
 go_wp2
 go_loopg [3] k (fun kq v3 w' => ∃ (x3_1 : Int), v3 = .int .i64 x3_1 ∧ jA (jX.l0 kq l0 x3_1 = some r) ∧ jA (kq ≤ k) ∧ jA (Below w.heap.size w w'))
 case atStart => exact ⟨((l0.length : Int)), sd_, H', ⟨Nat.le_refl _⟩, ⟨(bb_ HB)⟩⟩
 case round =>
  clear H'
  obtain ⟨x3_1, rfl, HA, HK1, HB⟩ := hrel
  cases gk with
  | zero => exact absurd HA.out (by simp [jX.l0])
  | succ k1 =>
   have H := HA.out
   clear HA
   simp only [jX.l0] at H
   by_cases c2 : x3_1 > 0
   ·
    rw [if_pos c2] at H
    have c2b0 := decide_eq_true c2
    clear c2
    obtain ⟨ji3, hji3⟩ : ∃ j_ : Int, (wrap64 (x3_1 - 1)) = j_ := ⟨_, rfl⟩
    replace H : (if 0 ≤ (ji3) then (if (ji3) < (l0.length : Int) then (if (rd l0 (ji3)) = 0 then (jX.l0 k1 l0 ji3) else ((some (([] : List Int) : List Int)).bind fun y307 => (if 0 ≤ x3_1 then (if x3_1 ≤ (l0.length : Int) then (if y307.length + (l0.take (x3_1 : Int).toNat).length < 17592186044416 then (some (y307 ++ (l0.take (x3_1 : Int).toNat))) else (none)) else (none)) else (none)))) else (none)) else (none)) = some r := by first | (rw [hji3] at H; exact H) | (simp only [hji3] at H ⊢; exact H)
    have hji3w : (IntKind.i64.wrap (x3_1 - 1)) = ji3 := (zF _).trans hji3
    by_cases c4 : 0 ≤ (ji3)
    ·
     rw [if_pos c4] at H
     have c4b0 := decide_eq_true c4
     clear c4
     by_cases c5 : (ji3) < (l0.length : Int)
     ·
      rw [if_pos c5] at H
      have c5b0 := decide_eq_true c5
      clear c5
      by_cases c6 : (rd l0 (ji3)) = 0
      ·
       rw [if_pos c6] at H
       have c6b0 := beq_iff_eq.mpr c6
       have c6b1 := bne_eq_false_iff_eq.mpr c6
       clear c6
       have H' := jA.mk H
       clear H
       have p306 : 0 ≤ ((ji3) : Int) := of_decide_eq_true am_
       have q306 : (ji3) < (l0.length : Int) := of_decide_eq_true am_
       obtain ⟨ad306, e306, hx306_0⟩ := Kd.zD HR0.out (ji3) p306 q306
       cases e306
       replace hx306_0 := (HB.out.cell (World.block_lt_of_cell? w _ hx306_0)).trans hx306_0
       replace p306 := eq_true p306
       replace q306 := eq_true q306
       go_wp2
       go_roundg k1
       case measure => have := HK1.out; omega
       case rel => exact ⟨(ji3), (by first | rfl | (simp; done) | (simp only [← hji3] <;> (first | rfl | simp)) | (simp [*]; done)), H', ⟨by have := HK1.out; omega⟩, ⟨(bb_ HB)⟩⟩
      ·
       rw [if_neg c6] at H
       have c6b0 := beq_eq_false_iff_ne.mpr c6
       have c6b1 := bne_iff_ne.mpr c6
       obtain ⟨y307, hy307⟩ : ∃ y_ : List Int, y_ = (([] : List Int)) := ⟨_, rfl⟩
       replace H : (if 0 ≤ x3_1 then (if x3_1 ≤ (l0.length : Int) then (if y307.length + (l0.take (x3_1 : Int).toNat).length < 17592186044416 then (some (y307 ++ (l0.take (x3_1 : Int).toNat))) else (none)) else (none)) else (none)) = some r := by first | (rw [hy307]; with_reducible exact H) | (have H2_ := (Option.bind_some _ _).symm.trans H; rw [hy307]; with_reducible exact H2_) | (with_reducible exact hs_ H) | with_reducible exact H | (rw [hy307]; exact H) | exact H
       have Ny307 := jA.mk hy307
       clear hy307
       by_cases c7 : 0 ≤ x3_1
       ·
        rw [if_pos c7] at H
        have c7b0 := eq_true c7
        have c7b1 := decide_eq_true c7
        clear c7
        by_cases c8 : x3_1 ≤ (l0.length : Int)
        ·
         rw [if_pos c8] at H
         have c8b0 := eq_true c8
         have c8b1 := decide_eq_true c8
         clear c8
         by_cases c9 : y307.length + (l0.take (x3_1 : Int).toNat).length < 17592186044416
         ·
          rw [if_pos c9] at H
          have LMc9 := jA.mk c9
          clear c9
          obtain ⟨y311, hy311⟩ : ∃ y_ : List Int, y_ = (y307 ++ (l0.take (x3_1 : Int).toNat)) := ⟨_, rfl⟩
          replace H : (some y311) = some r := by first | (rw [hy311]; with_reducible exact H) | (have H2_ := (Option.bind_some _ _).symm.trans H; rw [hy311]; with_reducible exact H2_) | (with_reducible exact hs_ H) | with_reducible exact H | (rw [hy311]; exact H) | exact H
          have Ny311 := jA.mk hy311
          clear hy311
          obtain rfl := Option.some.inj H
          have p306 : 0 ≤ ((ji3) : Int) := of_decide_eq_true am_
          have q306 : (ji3) < (l0.length : Int) := of_decide_eq_true am_
          obtain ⟨ad306, e306, hx306_0⟩ := Kd.zD HR0.out (ji3) p306 q306
          cases e306
          replace hx306_0 := (HB.out.cell (World.block_lt_of_cell? w _ hx306_0)).trans hx306_0
          replace p306 := eq_true p306
          replace q306 := eq_true q306
          go_wp2_with (first | ((with_reducible refine jr (N := 19) rfl ?_); refine Kd.jAN (Kd.int .u64) _ 22 ?hg (N := 19) ?hd (xs := ([] : List Int)) (inner := []) (ok := fun _ => True) (okp := fun _ => True) ?hr ?hp (fun _ hk => hk) trivial (Below.refl _ _) (Nat.le_refl _) (by simp) ?_; (case hd => rfl); (case hg => rfl); (case hr => exact gs_); (case hp => exact (Reps.none _ _)); intro v308 w10 ho11 hb hg_ hnew_; clear hg_ hnew_; (first | rw [← Ny307.out] at ho11 | (simp only [Int.reduceToNat] at ho11; rw [← Ny307.out] at ho11)); have HO309 := jA.mk (Kd.jU ho11 (jB (bb_ HB))); replace HB := bs_ HB hb; clear hb ho11; obtain ⟨i012, hi012, _, hsz12, _⟩ := info_parts zw; obtain ⟨hcut12, hA12, hC12⟩ := jBp (P := Try.prog) (Value.int .u64) 0 35 22 .i64 Try.underlying35 hi012 hsz12 (some ad306) c0 l0 x3_1 (of_decide_eq_true am_) (of_decide_eq_true am_) HC0.out; have HR310 := jA.mk (Kd.jDH (h1 := fun _ => rfl) (hA12 _ (Kd.jBw HR0.out))); have HC310 := jA.mk hC12; clear hA12 hC12 hi012 hsz12) | ((with_reducible refine vU (b := .append) (xs := #[.tmp 20, .tmp 23]) rfl ?_); at_builtin; refine Kd.jAg (Kd.int .u64) (w0 := w) w.heap.size rfl (.tmp 20) (.tmp 23) 35 22 (.int .u64 0) 8 rfl Try.underlying35 zw rfl (by decide) (by omega) v308 y307 (l0.take (x3_1 : Int).toNat) _ _ _ (fun _ => True) (fun _ => False) rfl rfl ?aO ?aR (fun _ _ h => h) (fun _ h => h.elim) ?aF ?aB ?aS ?aL ?_; (case aR => first | (refine jCD (show (l0.take (x3_1 : Int).toNat).length = x3_1.toNat from (by rw [List.length_take]; have h_ : (x3_1 : Int) ≤ (l0.length : Int) := of_decide_eq_true am_; omega)) ?_; exact cc_ (Kd.jq HR310.out HB.out)) | (exact cc_ (Kd.jq HR310.out HB.out))); (case aB => exact (bb_ HB)); (case aF => exact (fun _ _ => trivial)); (case aO => exact (rR_ HO309)); (case aS => exact (jB (bb_ HB))); (case aL => have := LMc9.out; have hlx_ := (show (l0.take (x3_1 : Int).toNat).length = x3_1.toNat from (by rw [List.length_take]; have h_ : (x3_1 : Int) ≤ (l0.length : Int) := of_decide_eq_true am_; omega)); omega); intro v312 w13 ho hb hg hat; rw [← Ny311.out] at ho; replace HB := jA.mk (hb); have HO313 := jA.mk (ho); clear HO309 ho hb hg hat))
          go_ret
          exact ⟨_, by first | rfl | (simp [vM, vL] <;> rfl) | (simp only [← hji3]; first | rfl | (simp [vM, vL] <;> rfl)) | (simp [*, vM, vL] <;> rfl), (rR_ HO313), (bb_ HB)⟩
         ·
          rw [if_neg c9] at H
          exact absurd H (by simp)
        ·
         rw [if_neg c8] at H
         exact absurd H (by simp)
       ·
        rw [if_neg c7] at H
        exact absurd H (by simp)
     ·
      rw [if_neg c5] at H
      exact absurd H (by simp)
    ·
     rw [if_neg c4] at H
     exact absurd H (by simp)
   ·
    rw [if_neg c2] at H
    have c2b0 := decide_eq_false c2
    clear c2
    obtain ⟨y314, hy314⟩ : ∃ y_ : List Int, y_ = (([] : List Int)) := ⟨_, rfl⟩
    replace H : (if 0 ≤ x3_1 then (if x3_1 ≤ (l0.length : Int) then (if y314.length + (l0.take (x3_1 : Int).toNat).length < 17592186044416 then (some (y314 ++ (l0.take (x3_1 : Int).toNat))) else (none)) else (none)) else (none)) = some r := by first | (rw [hy314]; with_reducible exact H) | (have H2_ := (Option.bind_some _ _).symm.trans H; rw [hy314]; with_reducible exact H2_) | (with_reducible exact hs_ H) | with_reducible exact H | (rw [hy314]; exact H) | exact H
    have Ny314 := jA.mk hy314
    clear hy314
    by_cases c14 : 0 ≤ x3_1
    ·
     rw [if_pos c14] at H
     have c14b0 := eq_true c14
     have c14b1 := decide_eq_true c14
     clear c14
     by_cases c15 : x3_1 ≤ (l0.length : Int)
     ·
      rw [if_pos c15] at H
      have c15b0 := eq_true c15
      have c15b1 := decide_eq_true c15
      clear c15
      by_cases c16 : y314.length + (l0.take (x3_1 : Int).toNat).length < 17592186044416
      ·
       rw [if_pos c16] at H
       have LMc16 := jA.mk c16
       clear c16
       obtain ⟨y318, hy318⟩ : ∃ y_ : List Int, y_ = (y314 ++ (l0.take (x3_1 : Int).toNat)) := ⟨_, rfl⟩
       replace H : (some y318) = some r := by first | (rw [hy318]; with_reducible exact H) | (have H2_ := (Option.bind_some _ _).symm.trans H; rw [hy318]; with_reducible exact H2_) | (with_reducible exact hs_ H) | with_reducible exact H | (rw [hy318]; exact H) | exact H
       have Ny318 := jA.mk hy318
       clear hy318
       obtain rfl := Option.some.inj H
       go_wp2_with (first | ((with_reducible refine jr (N := 19) rfl ?_); refine Kd.jAN (Kd.int .u64) _ 22 ?hg (N := 19) ?hd (xs := ([] : List Int)) (inner := []) (ok := fun _ => True) (okp := fun _ => True) ?hr ?hp (fun _ hk => hk) trivial (Below.refl _ _) (Nat.le_refl _) (by simp) ?_; (case hd => rfl); (case hg => rfl); (case hr => exact gs_); (case hp => exact (Reps.none _ _)); intro v315 w17 ho18 hb hg_ hnew_; clear hg_ hnew_; (first | rw [← Ny314.out] at ho18 | (simp only [Int.reduceToNat] at ho18; rw [← Ny314.out] at ho18)); have HO316 := jA.mk (Kd.jU ho18 (jB (bb_ HB))); replace HB := bs_ HB hb; clear hb ho18; obtain ⟨i019, hi019, _, hsz19, _⟩ := info_parts zw; obtain ⟨hcut19, hA19, hC19⟩ := jBp (P := Try.prog) (Value.int .u64) 0 35 22 .i64 Try.underlying35 hi019 hsz19 A0 c0 l0 x3_1 (of_decide_eq_true am_) (of_decide_eq_true am_) HC0.out; have HR317 := jA.mk (Kd.jDH (h1 := fun _ => rfl) (hA19 _ (Kd.jBw HR0.out))); have HC317 := jA.mk hC19; clear hA19 hC19 hi019 hsz19) | ((with_reducible refine vU (b := .append) (xs := #[.tmp 20, .tmp 23]) rfl ?_); at_builtin; refine Kd.jAg (Kd.int .u64) (w0 := w) w.heap.size rfl (.tmp 20) (.tmp 23) 35 22 (.int .u64 0) 8 rfl Try.underlying35 zw rfl (by decide) (by omega) v315 y314 (l0.take (x3_1 : Int).toNat) _ _ _ (fun _ => True) (fun _ => False) rfl rfl ?aO ?aR (fun _ _ h => h) (fun _ h => h.elim) ?aF ?aB ?aS ?aL ?_; (case aR => first | (refine jCD (show (l0.take (x3_1 : Int).toNat).length = x3_1.toNat from (by rw [List.length_take]; have h_ : (x3_1 : Int) ≤ (l0.length : Int) := of_decide_eq_true am_; omega)) ?_; exact cc_ (Kd.jq HR317.out HB.out)) | (exact cc_ (Kd.jq HR317.out HB.out))); (case aB => exact (bb_ HB)); (case aF => exact (fun _ _ => trivial)); (case aO => exact (rR_ HO316)); (case aS => exact (jB (bb_ HB))); (case aL => have := LMc16.out; have hlx_ := (show (l0.take (x3_1 : Int).toNat).length = x3_1.toNat from (by rw [List.length_take]; have h_ : (x3_1 : Int) ≤ (l0.length : Int) := of_decide_eq_true am_; omega)); omega); intro v319 w20 ho hb hg hat; rw [← Ny318.out] at ho; replace HB := jA.mk (hb); have HO320 := jA.mk (ho); clear HO316 ho hb hg hat))
       go_ret
       exact ⟨_, ew_, (rR_ HO320), (bb_ HB)⟩
      ·
       rw [if_neg c16] at H
       exact absurd H (by simp)
     ·
      rw [if_neg c15] at H
      exact absurd H (by simp)
    ·
     rw [if_neg c14] at H
     exact absurd H (by simp)

/-! ### vv: function 21 -/
def vv.f (k : Nat) (a0 : Int) : Option (List Int) := (jX.f k (([a0] : List Int))).bind fun t324 => (some t324)
theorem vv.mono : ∀ a0 k, LeO (vv.f k a0) (vv.f (k + 1) a0) := by
 intro a0 k
 unfold vv.f
 repeat' first
   | (with_reducible exact jX.mono _ _)
   | (with_reducible exact LeO.refl _)
   | (with_reducible exact LeO.none _)
   | (with_reducible refine LeO.ite ?_ ?_)
   | (with_reducible refine LeO.bind ?_ (fun _ => ?_))
theorem vv.calls (k : Nat) (a0 : Int) (r : List Int) (w : World) (h : vv.f k a0 = some r) :
  Calls Try.prog 21 #[.int .u64 a0] w fun e w' => ∃ v0_ : Value, e = .returned (v0_) ∧ Kd.R (Kd.int .u64) 22 w' w.heap.size (fun _ => True) v0_ r ∧ Below w.heap.size w w' := by
 have HB := jA.mk (Below.refl w.heap.size w)
 have H : ((jX.f k (([a0] : List Int))).bind fun t324 => (some t324)) = some r := h
 clear h
 obtain ⟨y321, hy321⟩ : ∃ y_ : List Int, y_ = (([a0] : List Int)) := ⟨_, rfl⟩
 replace H : ((jX.f k y321).bind fun t324 => (some t324)) = some r := by first | (rw [hy321]; with_reducible exact H) | (have H2_ := (Option.bind_some _ _).symm.trans H; rw [hy321]; with_reducible exact H2_) | (with_reducible exact hs_ H) | with_reducible exact H | (rw [hy321]; exact H) | exact H
 have Ny321 := jA.mk hy321
 clear hy321
 replace H := ob_ H
 obtain ⟨t324, A20, H⟩ := H
 replace H : (some t324) = some r := H
 have A2 := jA.mk A20
 clear A20
 obtain rfl := Option.some.inj H
 go_enter Try.func21, Try.ntmps21
 go_wp2_with (first | ((with_reducible refine jr (N := 4) rfl ?_); refine Kd.jAN (Kd.int .u64) _ 22 ?hg (N := 4) ?hd (xs := ([a0] : List Int)) (inner := [.int .u64 a0]) (ok := fun _ => True) (okp := fun _ => True) ?hr ?hp (fun _ hk => hk) trivial (Below.refl _ _) (Nat.le_refl _) (by simp) ?_; (case hd => rfl); (case hg => rfl); (case hr => exact gs_); (case hp => exact (Reps.one (show Kd.M (Kd.int .u64) _ _ _ a0 [.int .u64 a0] from rfl) (Reps.none _ _))); intro v322 w3 ho4 hb hg_ hnew_; clear hg_ hnew_; (first | rw [← Ny321.out] at ho4 | (simp only [Int.reduceToNat] at ho4; rw [← Ny321.out] at ho4)); have HO323 := jA.mk (Kd.jU ho4 (jB (bb_ HB))); replace HB := bs_ HB hb; clear hb ho4; obtain ⟨Ao5, co5, eo5⟩ := Kd.jm HO323.out; subst eo5) | ((with_reducible refine jG (f := 25) rfl ?_); refine jo (some 5) rfl rfl Try.func25 kr_ rfl #[.slice Ao5 y321.length co5] rfl mt_ ?_; (with_reducible refine (jX.calls k _ _ y321 t324 _ ?side1 ?side2 A2.out).mono ?_); (case side1 => exact cc_ (Kd.jF HO323.out).2.2); (case side2 => exact (Kd.jF HO323.out).2.1); rintro e w6 ⟨v325, rfl, ho0, hb⟩; refine ⟨_, rfl, ?_⟩; have HO326 := jA.mk (Kd.jU (Kd.jR ho0 (Kd.R_lt (rR_ HO323))) (jB (bb_ HB))); replace HO323 := re_ HO323 ho0 hb; replace HB := bs_ HB hb))
 go_ret
 exact ⟨_, ew_, by refine pR_ ?_; exact Kd.jk HO326.out (fun _ hk => trivial), (bb_ HB)⟩

end Go.Proofs.Ytijgeonhbmgikaa.POOctetGets
