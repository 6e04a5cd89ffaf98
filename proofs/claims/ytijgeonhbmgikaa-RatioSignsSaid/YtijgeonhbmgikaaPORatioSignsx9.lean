-- printed (pr.py)
import Derived.Test.YtijgeonhbmgikaaPORatioSignsx0
import Derived.Test.YtijgeonhbmgikaaPORatioSignsx1
import Derived.Test.YtijgeonhbmgikaaPORatioSignsx5
import Derived.Test.YtijgeonhbmgikaaPORatioSignsx8
namespace Go.Proofs.Ytijgeonhbmgikaa.PORatioSigns
open Go.RowKit Go.Proofs.YtijgeonhbmgikaaN Go.Proofs.YtijgeonhbmgikaaW.PrintWords Go.Proofs.YtijgeonhbmgikaaW.PrintLast Go.Proofs.YtijgeonhbmgikaaW.PrintMore
attribute [local go_sem] qG qE qg qd zl zk qF qD
set_option maxHeartbeats 8000000
set_option maxRecDepth 100000
set_option linter.unusedVariables false
set_option linter.unusedSimpArgs false

/-! ### jm: function 27 -/
def jm.f (k : Nat) (a0_0 : Bool) (l0_1 : List Int) (l0_2 : List Int) : Option (Bool) := (jk.f k l0_1 l0_2).bind fun bt265 => (if bt265.2 = 0 then (if (l0_2.length : Int) > 0 then ((qX.f k bt265.1 (([1] : List Int))).bind fun t272 => (if t272 = 0 then (if a0_0 = true then ((jy.f a0_0 l0_1 l0_2).bind fun t273 => (some (!t273))) else (some true)) else (some false))) else (some false)) else (some false))
theorem jm.mono : ∀ a0 a1 a2 k, LeO (jm.f k a0 a1 a2) (jm.f (k + 1) a0 a1 a2) := by
 intro a0 a1 a2 k
 unfold jm.f
 repeat' first
   | (with_reducible exact qX.mono _ _ _)
   | (with_reducible exact jk.mono _ _ _)
   | (with_reducible exact LeO.refl _)
   | (with_reducible exact LeO.none _)
   | (with_reducible refine LeO.ite ?_ ?_)
   | (with_reducible refine LeO.bind ?_ (fun _ => ?_))
theorem jm.calls (k : Nat) (a0_0 : Bool) (A0_1 : Option Addr) (c0_1 : Nat) (l0_1 : List Int) (A0_2 : Option Addr) (c0_2 : Nat) (l0_2 : List Int) (r : Bool) (w : World) (hr0_1 : Kd.C (Kd.int .u64) w A0_1 l0_1.length l0_1) (hc0_1 : l0_1.length ≤ c0_1) (hr0_2 : Kd.C (Kd.int .u64) w A0_2 l0_2.length l0_2) (hc0_2 : l0_2.length ≤ c0_2) (h : jm.f k a0_0 l0_1 l0_2 = some r) :
  Calls Try.prog 27 #[.agg #[.bool a0_0, .slice A0_1 l0_1.length c0_1, .slice A0_2 l0_2.length c0_2]] w fun e w' => e = .returned (.bool r) ∧ Below w.heap.size w w' := by
 have hu44 := Try.underlying44
 have HR0_1 := jA.mk hr0_1
 have HC0_1 := jA.mk hc0_1
 clear hr0_1 hc0_1
 have HR0_2 := jA.mk hr0_2
 have HC0_2 := jA.mk hc0_2
 clear hr0_2 hc0_2
 have HB := jA.mk (Below.refl w.heap.size w)
 have H : ((jk.f k l0_1 l0_2).bind fun bt265 => (if bt265.2 = 0 then (if (l0_2.length : Int) > 0 then ((qX.f k bt265.1 (([1] : List Int))).bind fun t272 => (if t272 = 0 then (if a0_0 = true then ((jy.f a0_0 l0_1 l0_2).bind fun t273 => (some (!t273))) else (some true)) else (some false))) else (some false)) else (some false))) = some r := h
 clear h
 replace H := Option.bind_eq_some_iff.mp H
 obtain ⟨⟨t265, t266⟩, A20, H⟩ := H
 replace H : (if t266 = 0 then (if (l0_2.length : Int) > 0 then ((qX.f k t265 (([1] : List Int))).bind fun t272 => (if t272 = 0 then (if a0_0 = true then ((jy.f a0_0 l0_1 l0_2).bind fun t273 => (some (!t273))) else (some true)) else (some false))) else (some false)) else (some false)) = some r := H
 have A2 := jA.mk A20
 clear A20
 by_cases c3 : t266 = 0
 ·
  rw [if_pos c3] at H
  have c3b0 : (t266 == 0) = true := beq_iff_eq.mpr c3
  have c3b1 : (t266 != 0) = false := bne_eq_false_iff_eq.mpr c3
  clear c3
  by_cases c4 : (l0_2.length : Int) > 0
  ·
   rw [if_pos c4] at H
   have c4b0 : decide (0 < (l0_2.length : Int)) = true := decide_eq_true c4
   have c4b1 : decide (0 < l0_2.length) = true := decide_eq_true (by omega)
   clear c4
   obtain ⟨y269, hy269⟩ : ∃ y_ : List Int, y_ = (([1] : List Int)) := ⟨_, rfl⟩
   replace H : ((qX.f k t265 y269).bind fun t272 => (if t272 = 0 then (if a0_0 = true then ((jy.f a0_0 l0_1 l0_2).bind fun t273 => (some (!t273))) else (some true)) else (some false))) = some r := by first | (rw [hy269]; with_reducible exact H) | (have H2_ := (Option.bind_some _ _).symm.trans H; rw [hy269]; with_reducible exact H2_) | (with_reducible exact hs_ H) | with_reducible exact H | (rw [hy269]; exact H) | exact H
   have Ny269 := jA.mk hy269
   clear hy269
   replace H := Option.bind_eq_some_iff.mp H
   obtain ⟨t272, A50, H⟩ := H
   replace H : (if t272 = 0 then (if a0_0 = true then ((jy.f a0_0 l0_1 l0_2).bind fun t273 => (some (!t273))) else (some true)) else (some false)) = some r := H
   have A5 := jA.mk A50
   clear A50
   by_cases c6 : t272 = 0
   ·
    rw [if_pos c6] at H
    have c6b0 : (t272 == 0) = true := beq_iff_eq.mpr c6
    have c6b1 : (t272 != 0) = false := bne_eq_false_iff_eq.mpr c6
    clear c6
    by_cases c7 : a0_0 = true
    ·
     subst c7
     have H1 : ((jy.f true l0_1 l0_2).bind fun t273 => (some (!t273))) = some r := by rw [if_pos rfl] at H; exact H
     clear H
     have H := H1
     clear H1
     replace H := Option.bind_eq_some_iff.mp H
     obtain ⟨t273, A80, H⟩ := H
     replace H : (some (!t273)) = some r := H
     have A8 := jA.mk A80
     clear A80
     obtain rfl := Option.some.inj H
     go_enter Try.func27, Try.ntmps27
     go_wp2_with (first | ((with_reducible refine jd (N := 1) rfl ?_); (try (refine vD (by rfl) ?_; dsimp only)); refine vK ?hg (N := 1) ?hd (cs := #[.bool true, .slice A0_1 l0_1.length c0_1, .slice A0_2 l0_2.length c0_2]) (t := 44) ?hr ?_; (case hd => rfl); (case hg => rfl); (case hr => exact gs_); intro gb264 hg w9 hbox hb; have n0_ := jA.mk (jE (bb_ HB) hb); have n1_ := jA.mk (hbox); have n2_ := jA.mk ((by rw [hg]; exact (jC (bb_ HB)) : w.heap.size ≤ gb264)); have n3_ := jA.mk ((by rw [hg]; exact (jC (bb_ HB)) : w.heap.size ≤ gb264)); clear HB; have HB := n0_; have BK264 := n1_; have GW264 := n2_; have GE264 := n3_; clear n0_ n1_ n2_ n3_ hb hbox hg; have hcz10_0 : w9.cell? ⟨gb264, 0, none⟩ = some (.bool true) := (jB BK264.out 0).trans rfl; have hcz10_1 : w9.cell? ⟨gb264, 1, none⟩ = some (.slice A0_1 l0_1.length c0_1) := (jB BK264.out 1).trans rfl; have hcz10_2 : w9.cell? ⟨gb264, 2, none⟩ = some (.slice A0_2 l0_2.length c0_2) := (jB BK264.out 2).trans rfl; have hfz10_0 := jD BK264.out 0; have hfz10_1 := jD BK264.out 1; have hfz10_2 := jD BK264.out 2) | ((with_reducible refine jH (f := 71) rfl ?_); refine jq (some 10) rfl rfl Try.func71 kr_ rfl #[.slice A0_1 l0_1.length c0_1, .slice A0_2 l0_2.length c0_2] rfl mt_ ?_; (with_reducible refine (jk.calls k _ _ l0_1 _ _ l0_2 t265 t266 _ ?side1 ?side2 ?side3 ?side4 A2.out).mono ?_); (case side1 => exact cc_ (Kd.jR HR0_1.out HB.out)); (case side2 => exact HC0_1.out); (case side3 => exact cc_ (Kd.jR HR0_2.out HB.out)); (case side4 => exact HC0_2.out); rintro e w11 ⟨v267, rfl, ho0, hb⟩; refine ⟨_, rfl, ?_⟩; have n0_ := jA.mk (Kd.jV ho0 (jC (bb1_ HB GE264))); have n1_ := jA.mk (bl_ BK264 hb); have n2_ := jA.mk (jE (bb1_ HB GE264) hb); clear BK264 HB; have HO268 := n0_; have BK264 := n1_; have HB := n2_; clear n0_ n1_ n2_; have hcz12_0 : w11.cell? ⟨gb264, 0, none⟩ = some (.bool true) := (jB BK264.out 0).trans rfl; have hcz12_1 : w11.cell? ⟨gb264, 1, none⟩ = some (.slice A0_1 l0_1.length c0_1) := (jB BK264.out 1).trans rfl; have hcz12_2 : w11.cell? ⟨gb264, 2, none⟩ = some (.slice A0_2 l0_2.length c0_2) := (jB BK264.out 2).trans rfl; have hfz12_0 := jD BK264.out 0; have hfz12_1 := jD BK264.out 1; have hfz12_2 := jD BK264.out 2) | ((with_reducible refine jd (N := 23) rfl ?_); (try (refine vD (by rfl) ?_; dsimp only)); refine Kd.jAJ (Kd.int .u64) _ 22 ?hg (N := 23) ?hd (xs := ([1] : List Int)) (inner := [.int .u64 1]) (ok := fun _ => True) (okp := fun _ => True) ?hr ?hp (fun _ hk => hk) trivial (Below.refl _ _) (Nat.le_refl _) (by simp) ?_; (case hd => rfl); (case hg => rfl); (case hr => exact gs_); (case hp => exact (Reps.one (show Kd.M (Kd.int .u64) _ _ _ 1 [.int .u64 1] from rfl) (Reps.none _ _))); intro v270 w13 ho14 hb hg_ hnew_; clear hg_ hnew_; (first | rw [← Ny269.out] at ho14 | (simp only [Int.reduceToNat] at ho14; rw [← Ny269.out] at ho14)); have n0_ := jA.mk (Kd.jr (rR_ HO268) (Kd.jS ho14) hb); have n1_ := jA.mk (Kd.jV (Kd.jY ho14 (Kd.R_lt (rR_ HO268))) (jC (bb1_ HB GE264))); have n2_ := jA.mk (bl_ BK264 hb); have n3_ := jA.mk (jE (bb1_ HB GE264) hb); clear HO268 BK264 HB; have HO268 := n0_; have HO271 := n1_; have BK264 := n2_; have HB := n3_; clear n0_ n1_ n2_ n3_ hb ho14; obtain ⟨Ao15, co15, eo15⟩ := Kd.jf HO268.out; subst eo15; obtain ⟨Ao16, co16, eo16⟩ := Kd.jf HO271.out; subst eo16) | ((with_reducible refine jd (N := 24) rfl ?_); (try (refine vD (by rfl) ?_; dsimp only)); refine vD (by first | rfl | kernel_rfl) ?_; dsimp only; (with_reducible refine jH (f := 73) rfl ?_); refine jq (some 24) rfl rfl Try.func73 kr_ rfl #[.slice Ao15 t265.length co15, .slice Ao16 y269.length co16] rfl mt_ ?_; (with_reducible refine (qX.calls k _ _ t265 _ _ y269 t272 _ ?side1 ?side2 ?side3 ?side4 A5.out).mono ?_); (case side1 => exact cc_ (Kd.jG HO268.out).2.2); (case side2 => exact (Kd.jG HO268.out).2.1); (case side3 => exact cc_ (Kd.jG HO271.out).2.2); (case side4 => exact (Kd.jG HO271.out).2.1); rintro e w17 ⟨rfl, hb⟩; refine ⟨_, rfl, ?_⟩; have n0_ := jA.mk (Kd.jO (rR_ HO268) hb); have n1_ := jA.mk (Kd.jO (rR_ HO271) hb); have n2_ := jA.mk (bl_ BK264 hb); have n3_ := jA.mk (jE (bb1_ HB GE264) hb); clear HO268 HO271 BK264 HB; have HO268 := n0_; have HO271 := n1_; have BK264 := n2_; have HB := n3_; clear n0_ n1_ n2_ n3_; have hcz18_0 : w17.cell? ⟨gb264, 0, none⟩ = some (.bool true) := (jB BK264.out 0).trans rfl; have hcz18_1 : w17.cell? ⟨gb264, 1, none⟩ = some (.slice A0_1 l0_1.length c0_1) := (jB BK264.out 1).trans rfl; have hcz18_2 : w17.cell? ⟨gb264, 2, none⟩ = some (.slice A0_2 l0_2.length c0_2) := (jB BK264.out 2).trans rfl; have hfz18_0 := jD BK264.out 0; have hfz18_1 := jD BK264.out 1; have hfz18_2 := jD BK264.out 2) | (go_at_call 54; (with_reducible refine (jy.calls true _ _ l0_1 _ _ l0_2 t273 _ ?side1 ?side2 ?side3 ?side4 A8.out).mono ?_); (case side1 => exact cc_ (Kd.jR HR0_1.out HB.out)); (case side2 => exact HC0_1.out); (case side3 => exact cc_ (Kd.jR HR0_2.out HB.out)); (case side4 => exact HC0_2.out); rintro e w19 ⟨rfl, hb⟩; have n0_ := jA.mk (Kd.jO (rR_ HO268) hb); have n1_ := jA.mk (Kd.jO (rR_ HO271) hb); have n2_ := jA.mk (bl_ BK264 hb); have n3_ := jA.mk (jE (bb1_ HB GE264) hb); clear HO268 HO271 BK264 HB; have HO268 := n0_; have HO271 := n1_; have BK264 := n2_; have HB := n3_; clear n0_ n1_ n2_ n3_))
     go_ret
     exact ⟨ew_, (bb1_ HB GE264)⟩
    ·
     replace c7 := Bool.eq_false_iff.mpr c7
     subst c7
     have H1 : (some true) = some r := by rw [if_neg (show ¬ (false = true) by decide)] at H; exact H
     clear H
     have H := H1
     clear H1
     obtain rfl := Option.some.inj H
     go_enter Try.func27, Try.ntmps27
     go_wp2_with (first | ((with_reducible refine jd (N := 1) rfl ?_); (try (refine vD (by rfl) ?_; dsimp only)); refine vK ?hg (N := 1) ?hd (cs := #[.bool false, .slice A0_1 l0_1.length c0_1, .slice A0_2 l0_2.length c0_2]) (t := 44) ?hr ?_; (case hd => rfl); (case hg => rfl); (case hr => exact gs_); intro gb264 hg w20 hbox hb; have n0_ := jA.mk (jE (bb_ HB) hb); have n1_ := jA.mk (hbox); have n2_ := jA.mk ((by rw [hg]; exact (jC (bb_ HB)) : w.heap.size ≤ gb264)); have n3_ := jA.mk ((by rw [hg]; exact (jC (bb_ HB)) : w.heap.size ≤ gb264)); clear HB; have HB := n0_; have BK264 := n1_; have GW264 := n2_; have GE264 := n3_; clear n0_ n1_ n2_ n3_ hb hbox hg; have hcz21_0 : w20.cell? ⟨gb264, 0, none⟩ = some (.bool false) := (jB BK264.out 0).trans rfl; have hcz21_1 : w20.cell? ⟨gb264, 1, none⟩ = some (.slice A0_1 l0_1.length c0_1) := (jB BK264.out 1).trans rfl; have hcz21_2 : w20.cell? ⟨gb264, 2, none⟩ = some (.slice A0_2 l0_2.length c0_2) := (jB BK264.out 2).trans rfl; have hfz21_0 := jD BK264.out 0; have hfz21_1 := jD BK264.out 1; have hfz21_2 := jD BK264.out 2) | ((with_reducible refine jH (f := 71) rfl ?_); refine jq (some 10) rfl rfl Try.func71 kr_ rfl #[.slice A0_1 l0_1.length c0_1, .slice A0_2 l0_2.length c0_2] rfl mt_ ?_; (with_reducible refine (jk.calls k _ _ l0_1 _ _ l0_2 t265 t266 _ ?side1 ?side2 ?side3 ?side4 A2.out).mono ?_); (case side1 => exact cc_ (Kd.jR HR0_1.out HB.out)); (case side2 => exact HC0_1.out); (case side3 => exact cc_ (Kd.jR HR0_2.out HB.out)); (case side4 => exact HC0_2.out); rintro e w22 ⟨v267, rfl, ho0, hb⟩; refine ⟨_, rfl, ?_⟩; have n0_ := jA.mk (Kd.jV ho0 (jC (bb1_ HB GE264))); have n1_ := jA.mk (bl_ BK264 hb); have n2_ := jA.mk (jE (bb1_ HB GE264) hb); clear BK264 HB; have HO268 := n0_; have BK264 := n1_; have HB := n2_; clear n0_ n1_ n2_; have hcz23_0 : w22.cell? ⟨gb264, 0, none⟩ = some (.bool false) := (jB BK264.out 0).trans rfl; have hcz23_1 : w22.cell? ⟨gb264, 1, none⟩ = some (.slice A0_1 l0_1.length c0_1) := (jB BK264.out 1).trans rfl; have hcz23_2 : w22.cell? ⟨gb264, 2, none⟩ = some (.slice A0_2 l0_2.length c0_2) := (jB BK264.out 2).trans rfl; have hfz23_0 := jD BK264.out 0; have hfz23_1 := jD BK264.out 1; have hfz23_2 := jD BK264.out 2) | ((with_reducible refine jd (N := 23) rfl ?_); (try (refine vD (by rfl) ?_; dsimp only)); refine Kd.jAJ (Kd.int .u64) _ 22 ?hg (N := 23) ?hd (xs := ([1] : List Int)) (inner := [.int .u64 1]) (ok := fun _ => True) (okp := fun _ => True) ?hr ?hp (fun _ hk => hk) trivial (Below.refl _ _) (Nat.le_refl _) (by simp) ?_; (case hd => rfl); (case hg => rfl); (case hr => exact gs_); (case hp => exact (Reps.one (show Kd.M (Kd.int .u64) _ _ _ 1 [.int .u64 1] from rfl) (Reps.none _ _))); intro v270 w24 ho25 hb hg_ hnew_; clear hg_ hnew_; (first | rw [← Ny269.out] at ho25 | (simp only [Int.reduceToNat] at ho25; rw [← Ny269.out] at ho25)); have n0_ := jA.mk (Kd.jr (rR_ HO268) (Kd.jS ho25) hb); have n1_ := jA.mk (Kd.jV (Kd.jY ho25 (Kd.R_lt (rR_ HO268))) (jC (bb1_ HB GE264))); have n2_ := jA.mk (bl_ BK264 hb); have n3_ := jA.mk (jE (bb1_ HB GE264) hb); clear HO268 BK264 HB; have HO268 := n0_; have HO271 := n1_; have BK264 := n2_; have HB := n3_; clear n0_ n1_ n2_ n3_ hb ho25; obtain ⟨Ao26, co26, eo26⟩ := Kd.jf HO268.out; subst eo26; obtain ⟨Ao27, co27, eo27⟩ := Kd.jf HO271.out; subst eo27) | ((with_reducible refine jd (N := 24) rfl ?_); (try (refine vD (by rfl) ?_; dsimp only)); refine vD (by first | rfl | kernel_rfl) ?_; dsimp only; (with_reducible refine jH (f := 73) rfl ?_); refine jq (some 24) rfl rfl Try.func73 kr_ rfl #[.slice Ao26 t265.length co26, .slice Ao27 y269.length co27] rfl mt_ ?_; (with_reducible refine (qX.calls k _ _ t265 _ _ y269 t272 _ ?side1 ?side2 ?side3 ?side4 A5.out).mono ?_); (case side1 => exact cc_ (Kd.jG HO268.out).2.2); (case side2 => exact (Kd.jG HO268.out).2.1); (case side3 => exact cc_ (Kd.jG HO271.out).2.2); (case side4 => exact (Kd.jG HO271.out).2.1); rintro e w28 ⟨rfl, hb⟩; refine ⟨_, rfl, ?_⟩; have n0_ := jA.mk (Kd.jO (rR_ HO268) hb); have n1_ := jA.mk (Kd.jO (rR_ HO271) hb); have n2_ := jA.mk (bl_ BK264 hb); have n3_ := jA.mk (jE (bb1_ HB GE264) hb); clear HO268 HO271 BK264 HB; have HO268 := n0_; have HO271 := n1_; have BK264 := n2_; have HB := n3_; clear n0_ n1_ n2_ n3_; have hcz29_0 : w28.cell? ⟨gb264, 0, none⟩ = some (.bool false) := (jB BK264.out 0).trans rfl; have hcz29_1 : w28.cell? ⟨gb264, 1, none⟩ = some (.slice A0_1 l0_1.length c0_1) := (jB BK264.out 1).trans rfl; have hcz29_2 : w28.cell? ⟨gb264, 2, none⟩ = some (.slice A0_2 l0_2.length c0_2) := (jB BK264.out 2).trans rfl; have hfz29_0 := jD BK264.out 0; have hfz29_1 := jD BK264.out 1; have hfz29_2 := jD BK264.out 2))
     go_ret
     exact ⟨ew_, (bb1_ HB GE264)⟩
   ·
    rw [if_neg c6] at H
    have c6b0 : (t272 == 0) = false := beq_eq_false_iff_ne.mpr c6
    have c6b1 : (t272 != 0) = true := bne_iff_ne.mpr c6
    obtain rfl := Option.some.inj H
    go_enter Try.func27, Try.ntmps27
    go_wp2_with (first | ((with_reducible refine jd (N := 1) rfl ?_); (try (refine vD (by rfl) ?_; dsimp only)); refine vK ?hg (N := 1) ?hd (cs := #[.bool a0_0, .slice A0_1 l0_1.length c0_1, .slice A0_2 l0_2.length c0_2]) (t := 44) ?hr ?_; (case hd => rfl); (case hg => rfl); (case hr => exact gs_); intro gb264 hg w30 hbox hb; have n0_ := jA.mk (jE (bb_ HB) hb); have n1_ := jA.mk (hbox); have n2_ := jA.mk ((by rw [hg]; exact (jC (bb_ HB)) : w.heap.size ≤ gb264)); have n3_ := jA.mk ((by rw [hg]; exact (jC (bb_ HB)) : w.heap.size ≤ gb264)); clear HB; have HB := n0_; have BK264 := n1_; have GW264 := n2_; have GE264 := n3_; clear n0_ n1_ n2_ n3_ hb hbox hg; have hcz31_0 : w30.cell? ⟨gb264, 0, none⟩ = some (.bool a0_0) := (jB BK264.out 0).trans rfl; have hcz31_1 : w30.cell? ⟨gb264, 1, none⟩ = some (.slice A0_1 l0_1.length c0_1) := (jB BK264.out 1).trans rfl; have hcz31_2 : w30.cell? ⟨gb264, 2, none⟩ = some (.slice A0_2 l0_2.length c0_2) := (jB BK264.out 2).trans rfl; have hfz31_0 := jD BK264.out 0; have hfz31_1 := jD BK264.out 1; have hfz31_2 := jD BK264.out 2) | ((with_reducible refine jH (f := 71) rfl ?_); refine jq (some 10) rfl rfl Try.func71 kr_ rfl #[.slice A0_1 l0_1.length c0_1, .slice A0_2 l0_2.length c0_2] rfl mt_ ?_; (with_reducible refine (jk.calls k _ _ l0_1 _ _ l0_2 t265 t266 _ ?side1 ?side2 ?side3 ?side4 A2.out).mono ?_); (case side1 => exact cc_ (Kd.jR HR0_1.out HB.out)); (case side2 => exact HC0_1.out); (case side3 => exact cc_ (Kd.jR HR0_2.out HB.out)); (case side4 => exact HC0_2.out); rintro e w32 ⟨v267, rfl, ho0, hb⟩; refine ⟨_, rfl, ?_⟩; have n0_ := jA.mk (Kd.jV ho0 (jC (bb1_ HB GE264))); have n1_ := jA.mk (bl_ BK264 hb); have n2_ := jA.mk (jE (bb1_ HB GE264) hb); clear BK264 HB; have HO268 := n0_; have BK264 := n1_; have HB := n2_; clear n0_ n1_ n2_; have hcz33_0 : w32.cell? ⟨gb264, 0, none⟩ = some (.bool a0_0) := (jB BK264.out 0).trans rfl; have hcz33_1 : w32.cell? ⟨gb264, 1, none⟩ = some (.slice A0_1 l0_1.length c0_1) := (jB BK264.out 1).trans rfl; have hcz33_2 : w32.cell? ⟨gb264, 2, none⟩ = some (.slice A0_2 l0_2.length c0_2) := (jB BK264.out 2).trans rfl; have hfz33_0 := jD BK264.out 0; have hfz33_1 := jD BK264.out 1; have hfz33_2 := jD BK264.out 2) | ((with_reducible refine jd (N := 23) rfl ?_); (try (refine vD (by rfl) ?_; dsimp only)); refine Kd.jAJ (Kd.int .u64) _ 22 ?hg (N := 23) ?hd (xs := ([1] : List Int)) (inner := [.int .u64 1]) (ok := fun _ => True) (okp := fun _ => True) ?hr ?hp (fun _ hk => hk) trivial (Below.refl _ _) (Nat.le_refl _) (by simp) ?_; (case hd => rfl); (case hg => rfl); (case hr => exact gs_); (case hp => exact (Reps.one (show Kd.M (Kd.int .u64) _ _ _ 1 [.int .u64 1] from rfl) (Reps.none _ _))); intro v270 w34 ho35 hb hg_ hnew_; clear hg_ hnew_; (first | rw [← Ny269.out] at ho35 | (simp only [Int.reduceToNat] at ho35; rw [← Ny269.out] at ho35)); have n0_ := jA.mk (Kd.jr (rR_ HO268) (Kd.jS ho35) hb); have n1_ := jA.mk (Kd.jV (Kd.jY ho35 (Kd.R_lt (rR_ HO268))) (jC (bb1_ HB GE264))); have n2_ := jA.mk (bl_ BK264 hb); have n3_ := jA.mk (jE (bb1_ HB GE264) hb); clear HO268 BK264 HB; have HO268 := n0_; have HO271 := n1_; have BK264 := n2_; have HB := n3_; clear n0_ n1_ n2_ n3_ hb ho35; obtain ⟨Ao36, co36, eo36⟩ := Kd.jf HO268.out; subst eo36; obtain ⟨Ao37, co37, eo37⟩ := Kd.jf HO271.out; subst eo37) | ((with_reducible refine jd (N := 24) rfl ?_); (try (refine vD (by rfl) ?_; dsimp only)); refine vD (by first | rfl | kernel_rfl) ?_; dsimp only; (with_reducible refine jH (f := 73) rfl ?_); refine jq (some 24) rfl rfl Try.func73 kr_ rfl #[.slice Ao36 t265.length co36, .slice Ao37 y269.length co37] rfl mt_ ?_; (with_reducible refine (qX.calls k _ _ t265 _ _ y269 t272 _ ?side1 ?side2 ?side3 ?side4 A5.out).mono ?_); (case side1 => exact cc_ (Kd.jG HO268.out).2.2); (case side2 => exact (Kd.jG HO268.out).2.1); (case side3 => exact cc_ (Kd.jG HO271.out).2.2); (case side4 => exact (Kd.jG HO271.out).2.1); rintro e w38 ⟨rfl, hb⟩; refine ⟨_, rfl, ?_⟩; have n0_ := jA.mk (Kd.jO (rR_ HO268) hb); have n1_ := jA.mk (Kd.jO (rR_ HO271) hb); have n2_ := jA.mk (bl_ BK264 hb); have n3_ := jA.mk (jE (bb1_ HB GE264) hb); clear HO268 HO271 BK264 HB; have HO268 := n0_; have HO271 := n1_; have BK264 := n2_; have HB := n3_; clear n0_ n1_ n2_ n3_))
    go_ret
    exact ⟨ew_, (bb1_ HB GE264)⟩
  ·
   rw [if_neg c4] at H
   have c4b0 : decide (0 < (l0_2.length : Int)) = false := decide_eq_false c4
   have c4b1 : decide (0 < l0_2.length) = false := decide_eq_false (by omega)
   clear c4
   obtain rfl := Option.some.inj H
   go_enter Try.func27, Try.ntmps27
   go_wp2_with (first | ((with_reducible refine jd (N := 1) rfl ?_); (try (refine vD (by rfl) ?_; dsimp only)); refine vK ?hg (N := 1) ?hd (cs := #[.bool a0_0, .slice A0_1 l0_1.length c0_1, .slice A0_2 l0_2.length c0_2]) (t := 44) ?hr ?_; (case hd => rfl); (case hg => rfl); (case hr => exact gs_); intro gb264 hg w39 hbox hb; have n0_ := jA.mk (jE (bb_ HB) hb); have n1_ := jA.mk (hbox); have n2_ := jA.mk ((by rw [hg]; exact (jC (bb_ HB)) : w.heap.size ≤ gb264)); have n3_ := jA.mk ((by rw [hg]; exact (jC (bb_ HB)) : w.heap.size ≤ gb264)); clear HB; have HB := n0_; have BK264 := n1_; have GW264 := n2_; have GE264 := n3_; clear n0_ n1_ n2_ n3_ hb hbox hg; have hcz40_0 : w39.cell? ⟨gb264, 0, none⟩ = some (.bool a0_0) := (jB BK264.out 0).trans rfl; have hcz40_1 : w39.cell? ⟨gb264, 1, none⟩ = some (.slice A0_1 l0_1.length c0_1) := (jB BK264.out 1).trans rfl; have hcz40_2 : w39.cell? ⟨gb264, 2, none⟩ = some (.slice A0_2 l0_2.length c0_2) := (jB BK264.out 2).trans rfl; have hfz40_0 := jD BK264.out 0; have hfz40_1 := jD BK264.out 1; have hfz40_2 := jD BK264.out 2) | ((with_reducible refine jH (f := 71) rfl ?_); refine jq (some 10) rfl rfl Try.func71 kr_ rfl #[.slice A0_1 l0_1.length c0_1, .slice A0_2 l0_2.length c0_2] rfl mt_ ?_; (with_reducible refine (jk.calls k _ _ l0_1 _ _ l0_2 t265 t266 _ ?side1 ?side2 ?side3 ?side4 A2.out).mono ?_); (case side1 => exact cc_ (Kd.jR HR0_1.out HB.out)); (case side2 => exact HC0_1.out); (case side3 => exact cc_ (Kd.jR HR0_2.out HB.out)); (case side4 => exact HC0_2.out); rintro e w41 ⟨v267, rfl, ho0, hb⟩; refine ⟨_, rfl, ?_⟩; have n0_ := jA.mk (Kd.jV ho0 (jC (bb1_ HB GE264))); have n1_ := jA.mk (bl_ BK264 hb); have n2_ := jA.mk (jE (bb1_ HB GE264) hb); clear BK264 HB; have HO268 := n0_; have BK264 := n1_; have HB := n2_; clear n0_ n1_ n2_; have hcz42_0 : w41.cell? ⟨gb264, 0, none⟩ = some (.bool a0_0) := (jB BK264.out 0).trans rfl; have hcz42_1 : w41.cell? ⟨gb264, 1, none⟩ = some (.slice A0_1 l0_1.length c0_1) := (jB BK264.out 1).trans rfl; have hcz42_2 : w41.cell? ⟨gb264, 2, none⟩ = some (.slice A0_2 l0_2.length c0_2) := (jB BK264.out 2).trans rfl; have hfz42_0 := jD BK264.out 0; have hfz42_1 := jD BK264.out 1; have hfz42_2 := jD BK264.out 2))
   go_ret
   exact ⟨ew_, (bb1_ HB GE264)⟩
 ·
  rw [if_neg c3] at H
  have c3b0 : (t266 == 0) = false := beq_eq_false_iff_ne.mpr c3
  have c3b1 : (t266 != 0) = true := bne_iff_ne.mpr c3
  obtain rfl := Option.some.inj H
  go_enter Try.func27, Try.ntmps27
  go_wp2_with (first | ((with_reducible refine jd (N := 1) rfl ?_); (try (refine vD (by rfl) ?_; dsimp only)); refine vK ?hg (N := 1) ?hd (cs := #[.bool a0_0, .slice A0_1 l0_1.length c0_1, .slice A0_2 l0_2.length c0_2]) (t := 44) ?hr ?_; (case hd => rfl); (case hg => rfl); (case hr => exact gs_); intro gb264 hg w43 hbox hb; have n0_ := jA.mk (jE (bb_ HB) hb); have n1_ := jA.mk (hbox); have n2_ := jA.mk ((by rw [hg]; exact (jC (bb_ HB)) : w.heap.size ≤ gb264)); have n3_ := jA.mk ((by rw [hg]; exact (jC (bb_ HB)) : w.heap.size ≤ gb264)); clear HB; have HB := n0_; have BK264 := n1_; have GW264 := n2_; have GE264 := n3_; clear n0_ n1_ n2_ n3_ hb hbox hg; have hcz44_0 : w43.cell? ⟨gb264, 0, none⟩ = some (.bool a0_0) := (jB BK264.out 0).trans rfl; have hcz44_1 : w43.cell? ⟨gb264, 1, none⟩ = some (.slice A0_1 l0_1.length c0_1) := (jB BK264.out 1).trans rfl; have hcz44_2 : w43.cell? ⟨gb264, 2, none⟩ = some (.slice A0_2 l0_2.length c0_2) := (jB BK264.out 2).trans rfl; have hfz44_0 := jD BK264.out 0; have hfz44_1 := jD BK264.out 1; have hfz44_2 := jD BK264.out 2) | ((with_reducible refine jH (f := 71) rfl ?_); refine jq (some 10) rfl rfl Try.func71 kr_ rfl #[.slice A0_1 l0_1.length c0_1, .slice A0_2 l0_2.length c0_2] rfl mt_ ?_; (with_reducible refine (jk.calls k _ _ l0_1 _ _ l0_2 t265 t266 _ ?side1 ?side2 ?side3 ?side4 A2.out).mono ?_); (case side1 => exact cc_ (Kd.jR HR0_1.out HB.out)); (case side2 => exact HC0_1.out); (case side3 => exact cc_ (Kd.jR HR0_2.out HB.out)); (case side4 => exact HC0_2.out); rintro e w45 ⟨v267, rfl, ho0, hb⟩; refine ⟨_, rfl, ?_⟩; have n0_ := jA.mk (Kd.jV ho0 (jC (bb1_ HB GE264))); have n1_ := jA.mk (bl_ BK264 hb); have n2_ := jA.mk (jE (bb1_ HB GE264) hb); clear BK264 HB; have HO268 := n0_; have BK264 := n1_; have HB := n2_; clear n0_ n1_ n2_))
  go_ret
  exact ⟨ew_, (bb1_ HB GE264)⟩

/-! ### zD: function 24 -/
def zD.f (k : Nat) (a0 : Bool) (l1 : List Int) (l2 : List Int) : Option (Bool × List Int × List Int × Int) := (jk.f k l1 l2).bind fun bt275 => (if bt275.2 = 0 then (if (l2.length : Int) = 0 then (some (false, ([] : List Int), ([] : List Int), 30)) else ((jZ.f k l1 bt275.1).bind fun bt279 => ((jZ.f k l2 bt275.1).bind fun bt286 => (if a0 = true then ((jy.f false bt279.1 bt286.1).bind fun t293 => (some (!t293, bt279.1, bt286.1, 0))) else (some (false, bt279.1, bt286.1, 0)))))) else (some (false, ([] : List Int), ([] : List Int), bt275.2)))
theorem zD.mono : ∀ a0 a1 a2 k, LeO (zD.f k a0 a1 a2) (zD.f (k + 1) a0 a1 a2) := by
 intro a0 a1 a2 k
 unfold zD.f
 repeat' first
   | (with_reducible exact jZ.mono _ _ _)
   | (with_reducible exact jk.mono _ _ _)
   | (with_reducible exact LeO.refl _)
   | (with_reducible exact LeO.none _)
   | (with_reducible refine LeO.ite ?_ ?_)
   | (with_reducible refine LeO.bind ?_ (fun _ => ?_))
theorem zD.calls (k : Nat) (a0 : Bool) (A1 : Option Addr) (c1 : Nat) (l1 : List Int) (A2 : Option Addr) (c2 : Nat) (l2 : List Int) (r1 : Bool) (r2 : List Int) (r3 : List Int) (r4 : Int) (w : World) (hr1 : Kd.C (Kd.int .u64) w A1 l1.length l1) (hc1 : l1.length ≤ c1) (hr2 : Kd.C (Kd.int .u64) w A2 l2.length l2) (hc2 : l2.length ≤ c2) (h : zD.f k a0 l1 l2 = some (r1, r2, r3, r4)) :
  Calls Try.prog 24 #[.bool a0, .slice A1 l1.length c1, .slice A2 l2.length c2] w fun e w' => ∃ v1_ v2_ : Value, e = .returned (.tuple #[.agg #[.bool r1, v1_, v2_], .int .i64 r4]) ∧ Kd.R (Kd.int .u64) 22 w' w.heap.size (fun k_ => some k_ ≠ (v2_ : Value).ownBlock) v1_ r2 ∧ Kd.R (Kd.int .u64) 22 w' w.heap.size (fun k_ => some k_ ≠ (v1_ : Value).ownBlock) v2_ r3 ∧ Below w.heap.size w w' := by
 have hu44 := Try.underlying44
 have HR1 := jA.mk hr1
 have HC1 := jA.mk hc1
 clear hr1 hc1
 have HR2 := jA.mk hr2
 have HC2 := jA.mk hc2
 clear hr2 hc2
 have HB := jA.mk (Below.refl w.heap.size w)
 have H : ((jk.f k l1 l2).bind fun bt275 => (if bt275.2 = 0 then (if (l2.length : Int) = 0 then (some (false, ([] : List Int), ([] : List Int), 30)) else ((jZ.f k l1 bt275.1).bind fun bt279 => ((jZ.f k l2 bt275.1).bind fun bt286 => (if a0 = true then ((jy.f false bt279.1 bt286.1).bind fun t293 => (some (!t293, bt279.1, bt286.1, 0))) else (some (false, bt279.1, bt286.1, 0)))))) else (some (false, ([] : List Int), ([] : List Int), bt275.2)))) = some (r1, r2, r3, r4) := h
 clear h
 replace H := Option.bind_eq_some_iff.mp H
 obtain ⟨⟨t275, t276⟩, A40, H⟩ := H
 replace H : (if t276 = 0 then (if (l2.length : Int) = 0 then (some (false, ([] : List Int), ([] : List Int), 30)) else ((jZ.f k l1 t275).bind fun bt279 => ((jZ.f k l2 t275).bind fun bt286 => (if a0 = true then ((jy.f false bt279.1 bt286.1).bind fun t293 => (some (!t293, bt279.1, bt286.1, 0))) else (some (false, bt279.1, bt286.1, 0)))))) else (some (false, ([] : List Int), ([] : List Int), t276))) = some (r1, r2, r3, r4) := H
 have A4 := jA.mk A40
 clear A40
 by_cases c5 : t276 = 0
 ·
  rw [if_pos c5] at H
  have c5b0 : (t276 == 0) = true := beq_iff_eq.mpr c5
  have c5b1 : (t276 != 0) = false := bne_eq_false_iff_eq.mpr c5
  clear c5
  by_cases c6 : (l2.length : Int) = 0
  ·
   rw [if_pos c6] at H
   have c6b0 : ((l2.length : Int) == 0) = true := beq_iff_eq.mpr c6
   have c6b1 : ((l2.length : Int) != 0) = false := bne_eq_false_iff_eq.mpr c6
   clear c6
   simp only [Option.some.injEq, Prod.mk.injEq] at H
   obtain ⟨rfl, rfl, rfl, rfl⟩ := H
   go_enter Try.func24, Try.ntmps24
   go_wp2_with (first | ((with_reducible refine jd (N := 6) rfl ?_); refine vK ?hg (N := 6) ?hd (cs := #[.bool false, .slice none 0 0, .slice none 0 0]) (t := 44) ?hr ?_; (case hd => rfl); (case hg => rfl); (case hr => exact gs_); intro gb274 hg w7 hbox hb; have n0_ := jA.mk (jE (bb_ HB) hb); have n1_ := jA.mk (hbox); have n2_ := jA.mk ((by rw [hg]; exact (jC (bb_ HB)) : w.heap.size ≤ gb274)); have n3_ := jA.mk ((by rw [hg]; exact (jC (bb_ HB)) : w.heap.size ≤ gb274)); clear HB; have HB := n0_; have BK274 := n1_; have GW274 := n2_; have GE274 := n3_; clear n0_ n1_ n2_ n3_ hb hbox hg) | ((with_reducible refine jH (f := 71) rfl ?_); refine jq (some 12) rfl rfl Try.func71 kr_ rfl #[.slice A1 l1.length c1, .slice A2 l2.length c2] rfl mt_ ?_; (with_reducible refine (jk.calls k _ _ l1 _ _ l2 t275 t276 _ ?side1 ?side2 ?side3 ?side4 A4.out).mono ?_); (case side1 => exact cc_ (Kd.jR HR1.out HB.out)); (case side2 => exact HC1.out); (case side3 => exact cc_ (Kd.jR HR2.out HB.out)); (case side4 => exact HC2.out); rintro e w8 ⟨v277, rfl, ho0, hb⟩; refine ⟨_, rfl, ?_⟩; have n0_ := jA.mk (Kd.jV ho0 (jC (bb1_ HB GE274))); have n1_ := jA.mk (bl_ BK274 hb); have n2_ := jA.mk (jE (bb1_ HB GE274) hb); clear BK274 HB; have HO278 := n0_; have BK274 := n1_; have HB := n2_; clear n0_ n1_ n2_; have hcz9_0 : w8.cell? ⟨gb274, 0, none⟩ = some (.bool false) := (jB BK274.out 0).trans rfl; have hcz9_1 : w8.cell? ⟨gb274, 1, none⟩ = some (.slice none 0 0) := (jB BK274.out 1).trans rfl; have hcz9_2 : w8.cell? ⟨gb274, 2, none⟩ = some (.slice none 0 0) := (jB BK274.out 2).trans rfl; have hfz9_0 := jD BK274.out 0; have hfz9_1 := jD BK274.out 1; have hfz9_2 := jD BK274.out 2))
   refine bodyPost_ret (jAB rfl _ _ gb274 44 #[.bool false, .slice none 0 0, .slice none 0 0] (0, 0) _ rfl (by refine pk_ ?_; refine jw (cs := #[.bool false, .slice none 0 0, .slice none 0 0]) ?_ 2 _ rs_; refine pk_ ?_; refine jw (cs := #[.bool false, .slice none 0 0, .slice none 0 0]) ?_ 1 _ rs_; refine pk_ ?_; refine jw (cs := #[.bool false, .slice none 0 0, .slice none 0 0]) ?_ 0 _ rs_; refine pk_ ?_; exact BK274.out) Try.underlying44 rfl kr_) rfl ?_
   exact ⟨_, _, ew_, nl_, nl_, (bb1_ HB GE274)⟩
  ·
   rw [if_neg c6] at H
   have c6b0 : ((l2.length : Int) == 0) = false := beq_eq_false_iff_ne.mpr c6
   have c6b1 : ((l2.length : Int) != 0) = true := bne_iff_ne.mpr c6
   have c6b2 : ¬ (l2 = []) := fun h_ => c6 (by rw [h_]; rfl)
   replace H := Option.bind_eq_some_iff.mp H
   obtain ⟨⟨t279, t280, t281⟩, A100, H⟩ := H
   replace H : ((jZ.f k l2 t275).bind fun bt286 => (if a0 = true then ((jy.f false t279 bt286.1).bind fun t293 => (some (!t293, t279, bt286.1, 0))) else (some (false, t279, bt286.1, 0)))) = some (r1, r2, r3, r4) := H
   have A10 := jA.mk A100
   clear A100
   replace H := Option.bind_eq_some_iff.mp H
   obtain ⟨⟨t286, t287, t288⟩, A110, H⟩ := H
   replace H : (if a0 = true then ((jy.f false t279 t286).bind fun t293 => (some (!t293, t279, t286, 0))) else (some (false, t279, t286, 0))) = some (r1, r2, r3, r4) := H
   have A11 := jA.mk A110
   clear A110
   by_cases c12 : a0 = true
   ·
    subst c12
    have H1 : ((jy.f false t279 t286).bind fun t293 => (some (!t293, t279, t286, 0))) = some (r1, r2, r3, r4) := by rw [if_pos rfl] at H; exact H
    clear H
    have H := H1
    clear H1
    replace H := Option.bind_eq_some_iff.mp H
    obtain ⟨t293, A130, H⟩ := H
    replace H : (some (!t293, t279, t286, 0)) = some (r1, r2, r3, r4) := H
    have A13 := jA.mk A130
    clear A130
    simp only [Option.some.injEq, Prod.mk.injEq] at H
    obtain ⟨rfl, rfl, rfl, rfl⟩ := H
    go_enter Try.func24, Try.ntmps24
    go_wp2_with (first | ((with_reducible refine jd (N := 6) rfl ?_); refine vK ?hg (N := 6) ?hd (cs := #[.bool false, .slice none 0 0, .slice none 0 0]) (t := 44) ?hr ?_; (case hd => rfl); (case hg => rfl); (case hr => exact gs_); intro gb274 hg w14 hbox hb; have n0_ := jA.mk (jE (bb_ HB) hb); have n1_ := jA.mk (hbox); have n2_ := jA.mk ((by rw [hg]; exact (jC (bb_ HB)) : w.heap.size ≤ gb274)); have n3_ := jA.mk ((by rw [hg]; exact (jC (bb_ HB)) : w.heap.size ≤ gb274)); clear HB; have HB := n0_; have BK274 := n1_; have GW274 := n2_; have GE274 := n3_; clear n0_ n1_ n2_ n3_ hb hbox hg) | ((with_reducible refine jH (f := 71) rfl ?_); refine jq (some 12) rfl rfl Try.func71 kr_ rfl #[.slice A1 l1.length c1, .slice A2 l2.length c2] rfl mt_ ?_; (with_reducible refine (jk.calls k _ _ l1 _ _ l2 t275 t276 _ ?side1 ?side2 ?side3 ?side4 A4.out).mono ?_); (case side1 => exact cc_ (Kd.jR HR1.out HB.out)); (case side2 => exact HC1.out); (case side3 => exact cc_ (Kd.jR HR2.out HB.out)); (case side4 => exact HC2.out); rintro e w15 ⟨v277, rfl, ho0, hb⟩; refine ⟨_, rfl, ?_⟩; have n0_ := jA.mk (Kd.jV ho0 (jC (bb1_ HB GE274))); have n1_ := jA.mk (bl_ BK274 hb); have n2_ := jA.mk (jE (bb1_ HB GE274) hb); clear BK274 HB; have HO278 := n0_; have BK274 := n1_; have HB := n2_; clear n0_ n1_ n2_; obtain ⟨Ao16, co16, eo16⟩ := Kd.jf HO278.out; subst eo16) | ((with_reducible refine jH (f := 72) rfl ?_); refine jq (some 28) rfl rfl Try.func72 kr_ rfl #[.slice A1 l1.length c1, .slice Ao16 t275.length co16] rfl mt_ ?_; (with_reducible refine (jZ.calls k _ _ l1 _ _ t275 t279 t280 t281 _ ?side1 ?side2 ?side3 ?side4 A10.out).mono ?_); (case side1 => exact cc_ (Kd.jR HR1.out HB.out)); (case side2 => exact HC1.out); (case side3 => exact cc_ (Kd.jG HO278.out).2.2); (case side4 => exact (Kd.jG HO278.out).2.1); rintro e w17 ⟨v282, v284, rfl, ho0, ho1, hb⟩; refine ⟨_, rfl, ?_⟩; have n0_ := jA.mk (Kd.jM (Kd.vL (Kd.vL (Kd.qK (rR_ HO278) hb) (Kd.jS ho0)) (Kd.jS ho1)) (fun _ h_ => h_.1)); have n1_ := jA.mk (Kd.jV (Kd.jY ho0 (Kd.R_lt (rR_ HO278))) (jC (bb1_ HB GE274))); have n2_ := jA.mk (Kd.jV (Kd.jY ho1 (Kd.R_lt (rR_ HO278))) (jC (bb1_ HB GE274))); have n3_ := jA.mk (bl_ BK274 hb); have n4_ := jA.mk (jE (bb1_ HB GE274) hb); clear HO278 BK274 HB; have HO278 := n0_; have HO283 := n1_; have HO285 := n2_; have BK274 := n3_; have HB := n4_; clear n0_ n1_ n2_ n3_ n4_; obtain ⟨Ao18, co18, eo18⟩ := Kd.jf HO283.out; subst eo18; have hcz19_0 : w17.cell? ⟨gb274, 0, none⟩ = some (.bool false) := (jB BK274.out 0).trans rfl; have hcz19_1 : w17.cell? ⟨gb274, 1, none⟩ = some (.slice none 0 0) := (jB BK274.out 1).trans rfl; have hcz19_2 : w17.cell? ⟨gb274, 2, none⟩ = some (.slice none 0 0) := (jB BK274.out 2).trans rfl; have hfz19_0 := jD BK274.out 0; have hfz19_1 := jD BK274.out 1; have hfz19_2 := jD BK274.out 2) | ((with_reducible refine jH (f := 72) rfl ?_); refine jq (some 36) rfl rfl Try.func72 kr_ rfl #[.slice A2 l2.length c2, .slice Ao16 t275.length co16] rfl mt_ ?_; (with_reducible refine (jZ.calls k _ _ l2 _ _ t275 t286 t287 t288 _ ?side1 ?side2 ?side3 ?side4 A11.out).mono ?_); (case side1 => exact Kd.jR HR2.out (bb1_ HB GE274)); (case side2 => exact HC2.out); (case side3 => refine (Kd.jG (e := 22) (base := w.heap.size) (ok := fun k_ => ((True ∧ some k_ ≠ (.slice Ao18 t279.length co18 : Value).ownBlock) ∧ some k_ ≠ (v284 : Value).ownBlock)) (n := t275.length) (c := co16) ?_).2.2; exact (by refine pR_ ?_; exact (Kd.jM (Kd.jU (p := ⟨gb274, 1, none⟩) (Kd.jI HO278.out BK274.out (by decide)) (fun _ hk => hk.2) (.slice Ao18 t279.length co18)) (fun _ h_ => h_.1)))); (case side4 => exact (Kd.jG HO278.out).2.1); rintro e w20 ⟨v289, v291, rfl, ho0, ho1, hb⟩; refine ⟨_, rfl, ?_⟩; have n0_ := jA.mk (Kd.jM (Kd.vL (Kd.vL (Kd.qK (by refine pR_ ?_; exact (Kd.jM (Kd.jU (p := ⟨gb274, 1, none⟩) (Kd.jI HO278.out BK274.out (by decide)) (fun _ hk => hk.2) (.slice Ao18 t279.length co18)) (fun _ h_ => h_.1))) hb) (Kd.jS ho0)) (Kd.jS ho1)) (fun _ h_ => h_.1)); have n1_ := jA.mk (Kd.jM (Kd.vL (Kd.vL (Kd.qK (by refine pR_ ?_; exact (Kd.jM (Kd.jU (p := ⟨gb274, 1, none⟩) (Kd.jI HO283.out BK274.out (by decide)) (fun _ hk => hk.2) (.slice Ao18 t279.length co18)) (fun _ h_ => h_.1))) hb) (Kd.jS ho0)) (Kd.jS ho1)) (fun _ h_ => h_.1)); have n2_ := jA.mk (Kd.jM (Kd.vL (Kd.vL (Kd.qK (by refine pR_ ?_; exact (Kd.jM (Kd.jU (p := ⟨gb274, 1, none⟩) (Kd.jI HO285.out BK274.out (by decide)) (fun _ hk => hk.2) (.slice Ao18 t279.length co18)) (fun _ h_ => h_.1))) hb) (Kd.jS ho0)) (Kd.jS ho1)) (fun _ h_ => h_.1)); have n3_ := jA.mk (Kd.jV (Kd.jY (Kd.jY (Kd.jY ho0 (Kd.R_lt (by refine pR_ ?_; exact (Kd.jM (Kd.jU (p := ⟨gb274, 1, none⟩) (Kd.jI HO278.out BK274.out (by decide)) (fun _ hk => hk.2) (.slice Ao18 t279.length co18)) (fun _ h_ => h_.1))))) (Kd.R_lt (by refine pR_ ?_; exact (Kd.jM (Kd.jU (p := ⟨gb274, 1, none⟩) (Kd.jI HO283.out BK274.out (by decide)) (fun _ hk => hk.2) (.slice Ao18 t279.length co18)) (fun _ h_ => h_.1))))) (Kd.R_lt (by refine pR_ ?_; exact (Kd.jM (Kd.jU (p := ⟨gb274, 1, none⟩) (Kd.jI HO285.out BK274.out (by decide)) (fun _ hk => hk.2) (.slice Ao18 t279.length co18)) (fun _ h_ => h_.1))))) (jC (bb1_ HB GE274))); have n4_ := jA.mk (Kd.jV (Kd.jY (Kd.jY (Kd.jY ho1 (Kd.R_lt (by refine pR_ ?_; exact (Kd.jM (Kd.jU (p := ⟨gb274, 1, none⟩) (Kd.jI HO278.out BK274.out (by decide)) (fun _ hk => hk.2) (.slice Ao18 t279.length co18)) (fun _ h_ => h_.1))))) (Kd.R_lt (by refine pR_ ?_; exact (Kd.jM (Kd.jU (p := ⟨gb274, 1, none⟩) (Kd.jI HO283.out BK274.out (by decide)) (fun _ hk => hk.2) (.slice Ao18 t279.length co18)) (fun _ h_ => h_.1))))) (Kd.R_lt (by refine pR_ ?_; exact (Kd.jM (Kd.jU (p := ⟨gb274, 1, none⟩) (Kd.jI HO285.out BK274.out (by decide)) (fun _ hk => hk.2) (.slice Ao18 t279.length co18)) (fun _ h_ => h_.1))))) (jC (bb1_ HB GE274))); have n5_ := jA.mk (vU (g := gb274) (o := .cells #[.bool false, .slice Ao18 t279.length co18, .slice none 0 0] 44 (0, 0)) (by refine pk_ ?_; refine jw (cs := #[.bool false, .slice none 0 0, .slice none 0 0]) ?_ 1 _ rs_; refine pk_ ?_; exact BK274.out) hb); have n6_ := jA.mk (jE (bb1_ HB GE274) hb); clear HO278 HO283 HO285 BK274 HB; have HO278 := n0_; have HO283 := n1_; have HO285 := n2_; have HO290 := n3_; have HO292 := n4_; have BK274 := n5_; have HB := n6_; clear n0_ n1_ n2_ n3_ n4_ n5_ n6_; obtain ⟨Ao21, co21, eo21⟩ := Kd.jf HO290.out; subst eo21; have hcz22_0 : w20.cell? ⟨gb274, 0, none⟩ = some (.bool false) := (jB BK274.out 0).trans rfl; have hcz22_1 : w20.cell? ⟨gb274, 1, none⟩ = some (.slice Ao18 t279.length co18) := (jB BK274.out 1).trans rfl; have hcz22_2 : w20.cell? ⟨gb274, 2, none⟩ = some (.slice none 0 0) := (jB BK274.out 2).trans rfl; have hfz22_0 := jD BK274.out 0; have hfz22_1 := jD BK274.out 1; have hfz22_2 := jD BK274.out 2) | (go_at_call 54; (with_reducible refine (jy.calls false _ _ t279 _ _ t286 t293 _ ?side1 ?side2 ?side3 ?side4 A13.out).mono ?_); (case side1 => refine (Kd.jG (e := 22) (base := w.heap.size) (ok := fun k_ => (((some k_ ≠ (v284 : Value).ownBlock ∧ some k_ ≠ (.slice Ao16 t275.length co16 : Value).ownBlock) ∧ some k_ ≠ (.slice Ao21 t286.length co21 : Value).ownBlock) ∧ some k_ ≠ (v291 : Value).ownBlock)) (n := t279.length) (c := co18) ?_).2.2; exact (by refine pR_ ?_; exact (Kd.jM (Kd.jU (p := ⟨gb274, 2, none⟩) (Kd.jI HO283.out BK274.out (by decide)) (fun _ hk => hk.2) (.slice Ao21 t286.length co21)) (fun _ h_ => h_.1)))); (case side2 => exact (Kd.jG HO283.out).2.1); (case side3 => refine (Kd.jG (e := 22) (base := w.heap.size) (ok := fun k_ => (((some k_ ≠ (v291 : Value).ownBlock ∧ some k_ ≠ (.slice Ao16 t275.length co16 : Value).ownBlock) ∧ some k_ ≠ (.slice Ao18 t279.length co18 : Value).ownBlock) ∧ some k_ ≠ (v284 : Value).ownBlock)) (n := t286.length) (c := co21) ?_).2.2; exact (by refine pR_ ?_; exact (Kd.jM (Kd.jU (p := ⟨gb274, 2, none⟩) (Kd.jI HO290.out BK274.out (by decide)) (fun _ hk => hk.2) (.slice Ao21 t286.length co21)) (fun _ h_ => h_.1)))); (case side4 => exact (Kd.jG HO290.out).2.1); rintro e w23 ⟨rfl, hb⟩; have n0_ := jA.mk (Kd.jO (by refine pR_ ?_; exact (Kd.jM (Kd.jU (p := ⟨gb274, 2, none⟩) (Kd.jI HO278.out BK274.out (by decide)) (fun _ hk => hk.2) (.slice Ao21 t286.length co21)) (fun _ h_ => h_.1))) hb); have n1_ := jA.mk (Kd.jO (by refine pR_ ?_; exact (Kd.jM (Kd.jU (p := ⟨gb274, 2, none⟩) (Kd.jI HO283.out BK274.out (by decide)) (fun _ hk => hk.2) (.slice Ao21 t286.length co21)) (fun _ h_ => h_.1))) hb); have n2_ := jA.mk (Kd.jO (by refine pR_ ?_; exact (Kd.jM (Kd.jU (p := ⟨gb274, 2, none⟩) (Kd.jI HO285.out BK274.out (by decide)) (fun _ hk => hk.2) (.slice Ao21 t286.length co21)) (fun _ h_ => h_.1))) hb); have n3_ := jA.mk (Kd.jO (by refine pR_ ?_; exact (Kd.jM (Kd.jU (p := ⟨gb274, 2, none⟩) (Kd.jI HO290.out BK274.out (by decide)) (fun _ hk => hk.2) (.slice Ao21 t286.length co21)) (fun _ h_ => h_.1))) hb); have n4_ := jA.mk (Kd.jO (by refine pR_ ?_; exact (Kd.jM (Kd.jU (p := ⟨gb274, 2, none⟩) (Kd.jI HO292.out BK274.out (by decide)) (fun _ hk => hk.2) (.slice Ao21 t286.length co21)) (fun _ h_ => h_.1))) hb); have n5_ := jA.mk (vU (g := gb274) (o := .cells #[.bool false, .slice Ao18 t279.length co18, .slice Ao21 t286.length co21] 44 (0, 0)) (by refine pk_ ?_; refine jw (cs := #[.bool false, .slice Ao18 t279.length co18, .slice none 0 0]) ?_ 2 _ rs_; refine pk_ ?_; exact BK274.out) hb); have n6_ := jA.mk (jE (bb1_ HB GE274) hb); clear HO278 HO283 HO285 HO290 HO292 BK274 HB; have HO278 := n0_; have HO283 := n1_; have HO285 := n2_; have HO290 := n3_; have HO292 := n4_; have BK274 := n5_; have HB := n6_; clear n0_ n1_ n2_ n3_ n4_ n5_ n6_; have hcz24_0 : w23.cell? ⟨gb274, 0, none⟩ = some (.bool false) := (jB BK274.out 0).trans rfl; have hcz24_1 : w23.cell? ⟨gb274, 1, none⟩ = some (.slice Ao18 t279.length co18) := (jB BK274.out 1).trans rfl; have hcz24_2 : w23.cell? ⟨gb274, 2, none⟩ = some (.slice Ao21 t286.length co21) := (jB BK274.out 2).trans rfl; have hfz24_0 := jD BK274.out 0; have hfz24_1 := jD BK274.out 1; have hfz24_2 := jD BK274.out 2))
    refine bodyPost_ret (jAB rfl _ _ gb274 44 #[.bool (!t293), .slice Ao18 t279.length co18, .slice Ao21 t286.length co21] (0, 0) _ rfl (by refine pk_ ?_; refine jw (cs := #[.bool (!t293), .slice Ao18 t279.length co18, .slice Ao21 t286.length co21]) ?_ 2 _ rs_; refine pk_ ?_; refine jw (cs := #[.bool (!t293), .slice Ao18 t279.length co18, .slice Ao21 t286.length co21]) ?_ 1 _ rs_; refine pk_ ?_; refine jw (cs := #[.bool (!t293), .slice Ao18 t279.length co18, .slice Ao21 t286.length co21]) ?_ 0 _ rs_; refine pk_ ?_; refine jw (cs := #[.bool false, .slice Ao18 t279.length co18, .slice Ao21 t286.length co21]) ?_ 0 _ rs_; refine pk_ ?_; exact BK274.out) Try.underlying44 rfl kr_) rfl ?_
    exact ⟨_, _, ew_, by refine pR_ ?_; exact Kd.jM (Kd.jU (p := ⟨gb274, 2, none⟩) (Kd.jU (p := ⟨gb274, 1, none⟩) (Kd.jU (p := ⟨gb274, 0, none⟩) (Kd.jU (p := ⟨gb274, 0, none⟩) (Kd.jI HO283.out BK274.out (by decide)) (fun _ hk => hk.2) (.bool (!t293))) (fun _ hk => hk.2) (.bool (!t293))) (fun _ hk => hk.2) (.slice Ao18 t279.length co18)) (fun _ hk => hk.2) (.slice Ao21 t286.length co21)) (fun _ hk => hk.1.1.2), by refine pR_ ?_; exact Kd.jM (Kd.jU (p := ⟨gb274, 2, none⟩) (Kd.jU (p := ⟨gb274, 1, none⟩) (Kd.jU (p := ⟨gb274, 0, none⟩) (Kd.jU (p := ⟨gb274, 0, none⟩) (Kd.jI HO290.out BK274.out (by decide)) (fun _ hk => hk.2) (.bool (!t293))) (fun _ hk => hk.2) (.bool (!t293))) (fun _ hk => hk.2) (.slice Ao18 t279.length co18)) (fun _ hk => hk.2) (.slice Ao21 t286.length co21)) (fun _ hk => hk.1.1.2), (bb1_ HB GE274)⟩
   ·
    replace c12 := Bool.eq_false_iff.mpr c12
    subst c12
    have H1 : (some (false, t279, t286, 0)) = some (r1, r2, r3, r4) := by rw [if_neg (show ¬ (false = true) by decide)] at H; exact H
    clear H
    have H := H1
    clear H1
    simp only [Option.some.injEq, Prod.mk.injEq] at H
    obtain ⟨rfl, rfl, rfl, rfl⟩ := H
    go_enter Try.func24, Try.ntmps24
    go_wp2_with (first | ((with_reducible refine jd (N := 6) rfl ?_); refine vK ?hg (N := 6) ?hd (cs := #[.bool false, .slice none 0 0, .slice none 0 0]) (t := 44) ?hr ?_; (case hd => rfl); (case hg => rfl); (case hr => exact gs_); intro gb274 hg w25 hbox hb; have n0_ := jA.mk (jE (bb_ HB) hb); have n1_ := jA.mk (hbox); have n2_ := jA.mk ((by rw [hg]; exact (jC (bb_ HB)) : w.heap.size ≤ gb274)); have n3_ := jA.mk ((by rw [hg]; exact (jC (bb_ HB)) : w.heap.size ≤ gb274)); clear HB; have HB := n0_; have BK274 := n1_; have GW274 := n2_; have GE274 := n3_; clear n0_ n1_ n2_ n3_ hb hbox hg) | ((with_reducible refine jH (f := 71) rfl ?_); refine jq (some 12) rfl rfl Try.func71 kr_ rfl #[.slice A1 l1.length c1, .slice A2 l2.length c2] rfl mt_ ?_; (with_reducible refine (jk.calls k _ _ l1 _ _ l2 t275 t276 _ ?side1 ?side2 ?side3 ?side4 A4.out).mono ?_); (case side1 => exact cc_ (Kd.jR HR1.out HB.out)); (case side2 => exact HC1.out); (case side3 => exact cc_ (Kd.jR HR2.out HB.out)); (case side4 => exact HC2.out); rintro e w26 ⟨v277, rfl, ho0, hb⟩; refine ⟨_, rfl, ?_⟩; have n0_ := jA.mk (Kd.jV ho0 (jC (bb1_ HB GE274))); have n1_ := jA.mk (bl_ BK274 hb); have n2_ := jA.mk (jE (bb1_ HB GE274) hb); clear BK274 HB; have HO278 := n0_; have BK274 := n1_; have HB := n2_; clear n0_ n1_ n2_; obtain ⟨Ao27, co27, eo27⟩ := Kd.jf HO278.out; subst eo27) | ((with_reducible refine jH (f := 72) rfl ?_); refine jq (some 28) rfl rfl Try.func72 kr_ rfl #[.slice A1 l1.length c1, .slice Ao27 t275.length co27] rfl mt_ ?_; (with_reducible refine (jZ.calls k _ _ l1 _ _ t275 t279 t280 t281 _ ?side1 ?side2 ?side3 ?side4 A10.out).mono ?_); (case side1 => exact cc_ (Kd.jR HR1.out HB.out)); (case side2 => exact HC1.out); (case side3 => exact cc_ (Kd.jG HO278.out).2.2); (case side4 => exact (Kd.jG HO278.out).2.1); rintro e w28 ⟨v282, v284, rfl, ho0, ho1, hb⟩; refine ⟨_, rfl, ?_⟩; have n0_ := jA.mk (Kd.jM (Kd.vL (Kd.vL (Kd.qK (rR_ HO278) hb) (Kd.jS ho0)) (Kd.jS ho1)) (fun _ h_ => h_.1)); have n1_ := jA.mk (Kd.jV (Kd.jY ho0 (Kd.R_lt (rR_ HO278))) (jC (bb1_ HB GE274))); have n2_ := jA.mk (Kd.jV (Kd.jY ho1 (Kd.R_lt (rR_ HO278))) (jC (bb1_ HB GE274))); have n3_ := jA.mk (bl_ BK274 hb); have n4_ := jA.mk (jE (bb1_ HB GE274) hb); clear HO278 BK274 HB; have HO278 := n0_; have HO283 := n1_; have HO285 := n2_; have BK274 := n3_; have HB := n4_; clear n0_ n1_ n2_ n3_ n4_; obtain ⟨Ao29, co29, eo29⟩ := Kd.jf HO283.out; subst eo29; have hcz30_0 : w28.cell? ⟨gb274, 0, none⟩ = some (.bool false) := (jB BK274.out 0).trans rfl; have hcz30_1 : w28.cell? ⟨gb274, 1, none⟩ = some (.slice none 0 0) := (jB BK274.out 1).trans rfl; have hcz30_2 : w28.cell? ⟨gb274, 2, none⟩ = some (.slice none 0 0) := (jB BK274.out 2).trans rfl; have hfz30_0 := jD BK274.out 0; have hfz30_1 := jD BK274.out 1; have hfz30_2 := jD BK274.out 2) | ((with_reducible refine jH (f := 72) rfl ?_); refine jq (some 36) rfl rfl Try.func72 kr_ rfl #[.slice A2 l2.length c2, .slice Ao27 t275.length co27] rfl mt_ ?_; (with_reducible refine (jZ.calls k _ _ l2 _ _ t275 t286 t287 t288 _ ?side1 ?side2 ?side3 ?side4 A11.out).mono ?_); (case side1 => exact Kd.jR HR2.out (bb1_ HB GE274)); (case side2 => exact HC2.out); (case side3 => refine (Kd.jG (e := 22) (base := w.heap.size) (ok := fun k_ => ((True ∧ some k_ ≠ (.slice Ao29 t279.length co29 : Value).ownBlock) ∧ some k_ ≠ (v284 : Value).ownBlock)) (n := t275.length) (c := co27) ?_).2.2; exact (by refine pR_ ?_; exact (Kd.jM (Kd.jU (p := ⟨gb274, 1, none⟩) (Kd.jI HO278.out BK274.out (by decide)) (fun _ hk => hk.2) (.slice Ao29 t279.length co29)) (fun _ h_ => h_.1)))); (case side4 => exact (Kd.jG HO278.out).2.1); rintro e w31 ⟨v289, v291, rfl, ho0, ho1, hb⟩; refine ⟨_, rfl, ?_⟩; have n0_ := jA.mk (Kd.jM (Kd.vL (Kd.vL (Kd.qK (by refine pR_ ?_; exact (Kd.jM (Kd.jU (p := ⟨gb274, 1, none⟩) (Kd.jI HO278.out BK274.out (by decide)) (fun _ hk => hk.2) (.slice Ao29 t279.length co29)) (fun _ h_ => h_.1))) hb) (Kd.jS ho0)) (Kd.jS ho1)) (fun _ h_ => h_.1)); have n1_ := jA.mk (Kd.jM (Kd.vL (Kd.vL (Kd.qK (by refine pR_ ?_; exact (Kd.jM (Kd.jU (p := ⟨gb274, 1, none⟩) (Kd.jI HO283.out BK274.out (by decide)) (fun _ hk => hk.2) (.slice Ao29 t279.length co29)) (fun _ h_ => h_.1))) hb) (Kd.jS ho0)) (Kd.jS ho1)) (fun _ h_ => h_.1)); have n2_ := jA.mk (Kd.jM (Kd.vL (Kd.vL (Kd.qK (by refine pR_ ?_; exact (Kd.jM (Kd.jU (p := ⟨gb274, 1, none⟩) (Kd.jI HO285.out BK274.out (by decide)) (fun _ hk => hk.2) (.slice Ao29 t279.length co29)) (fun _ h_ => h_.1))) hb) (Kd.jS ho0)) (Kd.jS ho1)) (fun _ h_ => h_.1)); have n3_ := jA.mk (Kd.jV (Kd.jY (Kd.jY (Kd.jY ho0 (Kd.R_lt (by refine pR_ ?_; exact (Kd.jM (Kd.jU (p := ⟨gb274, 1, none⟩) (Kd.jI HO278.out BK274.out (by decide)) (fun _ hk => hk.2) (.slice Ao29 t279.length co29)) (fun _ h_ => h_.1))))) (Kd.R_lt (by refine pR_ ?_; exact (Kd.jM (Kd.jU (p := ⟨gb274, 1, none⟩) (Kd.jI HO283.out BK274.out (by decide)) (fun _ hk => hk.2) (.slice Ao29 t279.length co29)) (fun _ h_ => h_.1))))) (Kd.R_lt (by refine pR_ ?_; exact (Kd.jM (Kd.jU (p := ⟨gb274, 1, none⟩) (Kd.jI HO285.out BK274.out (by decide)) (fun _ hk => hk.2) (.slice Ao29 t279.length co29)) (fun _ h_ => h_.1))))) (jC (bb1_ HB GE274))); have n4_ := jA.mk (Kd.jV (Kd.jY (Kd.jY (Kd.jY ho1 (Kd.R_lt (by refine pR_ ?_; exact (Kd.jM (Kd.jU (p := ⟨gb274, 1, none⟩) (Kd.jI HO278.out BK274.out (by decide)) (fun _ hk => hk.2) (.slice Ao29 t279.length co29)) (fun _ h_ => h_.1))))) (Kd.R_lt (by refine pR_ ?_; exact (Kd.jM (Kd.jU (p := ⟨gb274, 1, none⟩) (Kd.jI HO283.out BK274.out (by decide)) (fun _ hk => hk.2) (.slice Ao29 t279.length co29)) (fun _ h_ => h_.1))))) (Kd.R_lt (by refine pR_ ?_; exact (Kd.jM (Kd.jU (p := ⟨gb274, 1, none⟩) (Kd.jI HO285.out BK274.out (by decide)) (fun _ hk => hk.2) (.slice Ao29 t279.length co29)) (fun _ h_ => h_.1))))) (jC (bb1_ HB GE274))); have n5_ := jA.mk (vU (g := gb274) (o := .cells #[.bool false, .slice Ao29 t279.length co29, .slice none 0 0] 44 (0, 0)) (by refine pk_ ?_; refine jw (cs := #[.bool false, .slice none 0 0, .slice none 0 0]) ?_ 1 _ rs_; refine pk_ ?_; exact BK274.out) hb); have n6_ := jA.mk (jE (bb1_ HB GE274) hb); clear HO278 HO283 HO285 BK274 HB; have HO278 := n0_; have HO283 := n1_; have HO285 := n2_; have HO290 := n3_; have HO292 := n4_; have BK274 := n5_; have HB := n6_; clear n0_ n1_ n2_ n3_ n4_ n5_ n6_; obtain ⟨Ao32, co32, eo32⟩ := Kd.jf HO290.out; subst eo32; have hcz33_0 : w31.cell? ⟨gb274, 0, none⟩ = some (.bool false) := (jB BK274.out 0).trans rfl; have hcz33_1 : w31.cell? ⟨gb274, 1, none⟩ = some (.slice Ao29 t279.length co29) := (jB BK274.out 1).trans rfl; have hcz33_2 : w31.cell? ⟨gb274, 2, none⟩ = some (.slice none 0 0) := (jB BK274.out 2).trans rfl; have hfz33_0 := jD BK274.out 0; have hfz33_1 := jD BK274.out 1; have hfz33_2 := jD BK274.out 2))
    refine bodyPost_ret (jAB rfl _ _ gb274 44 #[.bool false, .slice Ao29 t279.length co29, .slice Ao32 t286.length co32] (0, 0) _ rfl (by refine pk_ ?_; refine jw (cs := #[.bool false, .slice Ao29 t279.length co29, .slice Ao32 t286.length co32]) ?_ 2 _ rs_; refine pk_ ?_; refine jw (cs := #[.bool false, .slice Ao29 t279.length co29, .slice Ao32 t286.length co32]) ?_ 1 _ rs_; refine pk_ ?_; refine jw (cs := #[.bool false, .slice Ao29 t279.length co29, .slice Ao32 t286.length co32]) ?_ 0 _ rs_; refine pk_ ?_; refine jw (cs := #[.bool false, .slice Ao29 t279.length co29, .slice Ao32 t286.length co32]) ?_ 0 _ rs_; refine pk_ ?_; refine jw (cs := #[.bool false, .slice Ao29 t279.length co29, .slice none 0 0]) ?_ 2 _ rs_; refine pk_ ?_; exact BK274.out) Try.underlying44 rfl kr_) rfl ?_
    exact ⟨_, _, ew_, by refine pR_ ?_; exact Kd.jM (Kd.jU (p := ⟨gb274, 2, none⟩) (Kd.jU (p := ⟨gb274, 1, none⟩) (Kd.jU (p := ⟨gb274, 0, none⟩) (Kd.jU (p := ⟨gb274, 0, none⟩) (Kd.jU (p := ⟨gb274, 2, none⟩) (Kd.jI HO283.out BK274.out (by decide)) (fun _ hk => hk.2) (.slice Ao32 t286.length co32)) (fun _ hk => hk.2) (.bool false)) (fun _ hk => hk.2) (.bool false)) (fun _ hk => hk.2) (.slice Ao29 t279.length co29)) (fun _ hk => hk.2) (.slice Ao32 t286.length co32)) (fun _ hk => hk.1.1.2), by refine pR_ ?_; exact Kd.jM (Kd.jU (p := ⟨gb274, 2, none⟩) (Kd.jU (p := ⟨gb274, 1, none⟩) (Kd.jU (p := ⟨gb274, 0, none⟩) (Kd.jU (p := ⟨gb274, 0, none⟩) (Kd.jU (p := ⟨gb274, 2, none⟩) (Kd.jI HO290.out BK274.out (by decide)) (fun _ hk => hk.2) (.slice Ao32 t286.length co32)) (fun _ hk => hk.2) (.bool false)) (fun _ hk => hk.2) (.bool false)) (fun _ hk => hk.2) (.slice Ao29 t279.length co29)) (fun _ hk => hk.2) (.slice Ao32 t286.length co32)) (fun _ hk => hk.1.1.2), (bb1_ HB GE274)⟩
 ·
  rw [if_neg c5] at H
  have c5b0 : (t276 == 0) = false := beq_eq_false_iff_ne.mpr c5
  have c5b1 : (t276 != 0) = true := bne_iff_ne.mpr c5
  simp only [Option.some.injEq, Prod.mk.injEq] at H
  obtain ⟨rfl, rfl, rfl, rfl⟩ := H
  go_enter Try.func24, Try.ntmps24
  go_wp2_with (first | ((with_reducible refine jd (N := 6) rfl ?_); refine vK ?hg (N := 6) ?hd (cs := #[.bool false, .slice none 0 0, .slice none 0 0]) (t := 44) ?hr ?_; (case hd => rfl); (case hg => rfl); (case hr => exact gs_); intro gb274 hg w34 hbox hb; have n0_ := jA.mk (jE (bb_ HB) hb); have n1_ := jA.mk (hbox); have n2_ := jA.mk ((by rw [hg]; exact (jC (bb_ HB)) : w.heap.size ≤ gb274)); have n3_ := jA.mk ((by rw [hg]; exact (jC (bb_ HB)) : w.heap.size ≤ gb274)); clear HB; have HB := n0_; have BK274 := n1_; have GW274 := n2_; have GE274 := n3_; clear n0_ n1_ n2_ n3_ hb hbox hg) | ((with_reducible refine jH (f := 71) rfl ?_); refine jq (some 12) rfl rfl Try.func71 kr_ rfl #[.slice A1 l1.length c1, .slice A2 l2.length c2] rfl mt_ ?_; (with_reducible refine (jk.calls k _ _ l1 _ _ l2 t275 t276 _ ?side1 ?side2 ?side3 ?side4 A4.out).mono ?_); (case side1 => exact cc_ (Kd.jR HR1.out HB.out)); (case side2 => exact HC1.out); (case side3 => exact cc_ (Kd.jR HR2.out HB.out)); (case side4 => exact HC2.out); rintro e w35 ⟨v277, rfl, ho0, hb⟩; refine ⟨_, rfl, ?_⟩; have n0_ := jA.mk (Kd.jV ho0 (jC (bb1_ HB GE274))); have n1_ := jA.mk (bl_ BK274 hb); have n2_ := jA.mk (jE (bb1_ HB GE274) hb); clear BK274 HB; have HO278 := n0_; have BK274 := n1_; have HB := n2_; clear n0_ n1_ n2_; have hcz36_0 : w35.cell? ⟨gb274, 0, none⟩ = some (.bool false) := (jB BK274.out 0).trans rfl; have hcz36_1 : w35.cell? ⟨gb274, 1, none⟩ = some (.slice none 0 0) := (jB BK274.out 1).trans rfl; have hcz36_2 : w35.cell? ⟨gb274, 2, none⟩ = some (.slice none 0 0) := (jB BK274.out 2).trans rfl; have hfz36_0 := jD BK274.out 0; have hfz36_1 := jD BK274.out 1; have hfz36_2 := jD BK274.out 2))
  refine bodyPost_ret (jAB rfl _ _ gb274 44 #[.bool false, .slice none 0 0, .slice none 0 0] (0, 0) _ rfl (by refine pk_ ?_; refine jw (cs := #[.bool false, .slice none 0 0, .slice none 0 0]) ?_ 2 _ rs_; refine pk_ ?_; refine jw (cs := #[.bool false, .slice none 0 0, .slice none 0 0]) ?_ 1 _ rs_; refine pk_ ?_; refine jw (cs := #[.bool false, .slice none 0 0, .slice none 0 0]) ?_ 0 _ rs_; refine pk_ ?_; exact BK274.out) Try.underlying44 rfl kr_) rfl ?_
  exact ⟨_, _, ew_, nl_, nl_, (bb1_ HB GE274)⟩

/-! ### jl: function 86 -/
def jl.f (k : Nat) (a0_0 : Bool) (l0_1 : List Int) (l0_2 : List Int) (a1_0 : Bool) (l1_1 : List Int) (l1_2 : List Int) : Option (List Int × List Int) := (jg.f k l0_1 l1_2).bind fun t296 => ((jg.f k l1_1 l0_2).bind fun t299 => (some (t296, t299)))
theorem jl.mono : ∀ a0 a1 a2 a3 a4 a5 k, LeO (jl.f k a0 a1 a2 a3 a4 a5) (jl.f (k + 1) a0 a1 a2 a3 a4 a5) := by
 intro a0 a1 a2 a3 a4 a5 k
 unfold jl.f
 repeat' first
   | (with_reducible exact jg.mono _ _ _)
   | (with_reducible exact LeO.refl _)
   | (with_reducible exact LeO.none _)
   | (with_reducible refine LeO.ite ?_ ?_)
   | (with_reducible refine LeO.bind ?_ (fun _ => ?_))
def jl.T1 : Bool × List (List Nat × List Nat) := (true, [([], []), ([0], [0]), ([], []), ([2], [2]), ([1, 3], [1, 3]), ([], []), ([5], [5]), ([], []), ([7], [7]), ([6, 8, 4], [6, 8]), ([4, 9, 0, 1, 2, 3, 4], [4]), ([9, 10, 0, 1, 2, 3, 4, 5, 6, 7, 8, 9, 10], [9])])
def jl.B1 : List Nat := [0, 1, 0, 4, 15, 0, 32, 0, 128, 511, 1023, 2047]
theorem jl.tab1 : rtab .any (opsOf Try.f86 1) = jl.T1 := by kernel_rfl
theorem jl.jGZ : jAN jl.T1.2 jl.B1 = true := by kernel_rfl
theorem jl.calls (k : Nat) (a0_0 : Bool) (A0_1 : Option Addr) (c0_1 : Nat) (l0_1 : List Int) (A0_2 : Option Addr) (c0_2 : Nat) (l0_2 : List Int) (a1_0 : Bool) (A1_1 : Option Addr) (c1_1 : Nat) (l1_1 : List Int) (A1_2 : Option Addr) (c1_2 : Nat) (l1_2 : List Int) (r1 : List Int) (r2 : List Int) (w : World) (hr0_1 : Kd.C (Kd.int .u64) w A0_1 l0_1.length l0_1) (hc0_1 : l0_1.length ≤ c0_1) (hr0_2 : Kd.C (Kd.int .u64) w A0_2 l0_2.length l0_2) (hc0_2 : l0_2.length ≤ c0_2) (hr1_1 : Kd.C (Kd.int .u64) w A1_1 l1_1.length l1_1) (hc1_1 : l1_1.length ≤ c1_1) (hr1_2 : Kd.C (Kd.int .u64) w A1_2 l1_2.length l1_2) (hc1_2 : l1_2.length ≤ c1_2) (h : jl.f k a0_0 l0_1 l0_2 a1_0 l1_1 l1_2 = some (r1, r2)) :
  Calls Try.prog 86 #[.agg #[.bool a0_0, .slice A0_1 l0_1.length c0_1, .slice A0_2 l0_2.length c0_2], .agg #[.bool a1_0, .slice A1_1 l1_1.length c1_1, .slice A1_2 l1_2.length c1_2]] w fun e w' => ∃ v0_ v1_ : Value, e = .returned (.tuple #[v0_, v1_]) ∧ Kd.R (Kd.int .u64) 22 w' w.heap.size (fun k_ => some k_ ≠ (v1_ : Value).ownBlock) v0_ r1 ∧ Kd.R (Kd.int .u64) 22 w' w.heap.size (fun k_ => some k_ ≠ (v0_ : Value).ownBlock) v1_ r2 ∧ Below w.heap.size w w' := by
 have hu44 := Try.underlying44
 have HR0_1 := jA.mk hr0_1
 have HC0_1 := jA.mk hc0_1
 clear hr0_1 hc0_1
 have HR0_2 := jA.mk hr0_2
 have HC0_2 := jA.mk hc0_2
 clear hr0_2 hc0_2
 have HR1_1 := jA.mk hr1_1
 have HC1_1 := jA.mk hc1_1
 clear hr1_1 hc1_1
 have HR1_2 := jA.mk hr1_2
 have HC1_2 := jA.mk hc1_2
 clear hr1_2 hc1_2
 have HB := jA.mk (Below.refl w.heap.size w)
 have H : ((jg.f k l0_1 l1_2).bind fun t296 => ((jg.f k l1_1 l0_2).bind fun t299 => (some (t296, t299)))) = some (r1, r2) := h
 clear h
 replace H := Option.bind_eq_some_iff.mp H
 obtain ⟨t296, A30, H⟩ := H
 replace H : ((jg.f k l1_1 l0_2).bind fun t299 => (some (t296, t299))) = some (r1, r2) := H
 have A3 := jA.mk A30
 clear A30
 replace H := Option.bind_eq_some_iff.mp H
 obtain ⟨t299, A40, H⟩ := H
 replace H : (some (t296, t299)) = some (r1, r2) := H
 have A4 := jA.mk A40
 clear A40
 simp only [Option.some.injEq, Prod.mk.injEq] at H
 obtain ⟨rfl, rfl⟩ := H
 go_enter Try.func86, Try.ntmps86
 try go_wp2_with (first | ((with_reducible refine jd (N := 2) rfl ?_); refine vK ?hg (N := 2) ?hd (cs := #[.bool a0_0, .slice A0_1 l0_1.length c0_1, .slice A0_2 l0_2.length c0_2]) (t := 44) ?hr ?_; (case hd => rfl); (case hg => rfl); (case hr => exact gs_); intro gb294 hg w5 hbox hb; have n0_ := jA.mk (jE (bb_ HB) hb); have n1_ := jA.mk (hbox); have n2_ := jA.mk ((by rw [hg]; exact (jC (bb_ HB)) : w.heap.size ≤ gb294)); have n3_ := jA.mk ((by rw [hg]; exact (jC (bb_ HB)) : w.heap.size ≤ gb294)); clear HB; have HB := n0_; have BK294 := n1_; have GW294 := n2_; have GE294 := n3_; clear n0_ n1_ n2_ n3_ hb hbox hg) | ((with_reducible refine jd (N := 3) rfl ?_); refine vK ?hg (N := 3) ?hd (cs := #[.bool a1_0, .slice A1_1 l1_1.length c1_1, .slice A1_2 l1_2.length c1_2]) (t := 44) ?hr ?_; (case hd => rfl); (case hg => rfl); (case hr => exact gs_); intro gb295 hg w6 hbox hb; have n0_ := jA.mk (bl_ BK294 hb); have n1_ := jA.mk (jE (bb1_ HB GE294) hb); have n2_ := jA.mk (hbox); have n3_ := jA.mk ((by rw [hg]; exact (jC (bb1_ HB GE294)) : w.heap.size ≤ gb295)); have n4_ := jA.mk ((by rw [hg]; exact (jC (bb1_ HB GE294)) : w.heap.size ≤ gb295)); have n5_ := jA.mk ((by rw [hg]; exact Nat.ne_of_lt (zK (g := gb294) (o := .cells #[.bool a0_0, .slice A0_1 l0_1.length c0_1, .slice A0_2 l0_2.length c0_2] 44 (0, 0)) (kb_ BK294)) : gb294 ≠ gb295)); have n6_ := jA.mk ((by rw [hg]; exact Nat.ne_of_gt (zK (g := gb294) (o := .cells #[.bool a0_0, .slice A0_1 l0_1.length c0_1, .slice A0_2 l0_2.length c0_2] 44 (0, 0)) (kb_ BK294)) : gb295 ≠ gb294)); clear BK294 HB; have BK294 := n0_; have HB := n1_; have BK295 := n2_; have GW295 := n3_; have GE295 := n4_; have NB294_295 := n5_; have NB295_294 := n6_; clear n0_ n1_ n2_ n3_ n4_ n5_ n6_ hb hbox hg))
 have n0_ := jA.mk (vH BK294.out)
 have n1_ := jA.mk (vH BK295.out)
 have n2_ := jA.mk (qH HB.out)
 clear BK294
 clear BK295
 clear HB
 have BK294 := n0_
 have BK295 := n1_
 have HB := n2_
 clear n0_ n1_ n2_
 refine jAj (n := 12) (S := fun w' => w'.cell? ⟨gb294, 0, none⟩ = some (.bool a0_0) ∧ w'.cell? ⟨gb294, 1, none⟩ = some (.slice A0_1 l0_1.length c0_1) ∧ w'.cell? ⟨gb294, 2, none⟩ = some (.slice A0_2 l0_2.length c0_2) ∧ w'.cell? ⟨gb295, 0, none⟩ = some (.bool a1_0) ∧ w'.cell? ⟨gb295, 1, none⟩ = some (.slice A1_1 l1_1.length c1_1) ∧ w'.cell? ⟨gb295, 2, none⟩ = some (.slice A1_2 l1_2.length c1_2)) (ds := []) #[false, false, false, false, false, false, false, false, false, false, false, false] kr_ rfl rfl ⟨(jB BK294.out 0).trans rfl, (jB BK294.out 1).trans rfl, (jB BK294.out 2).trans rfl, (jB BK295.out 0).trans rfl, (jB BK295.out 1).trans rfl, (jB BK295.out 2).trans rfl⟩ (fun hHeld => ?_); refine jAX jl.tab1 jl.jGZ (fun HT_ HW_ => ?_)
 generalize w6.drew = w7 at BK294 BK295 HB hHeld ⊢
 refine vQ (i := 0) (N := some 6) (v := ?_) (a' := ?_) #[true, false, false, false, false, false, false, false, false, false, false, false] rfl rfl (vT HT_.out kr_) (fun _ _ _ h => h) (Or.inl ⟨by rfl, ?_⟩) ?_ ?_
 rotate_left
 ·
  intro w'
  go_simp
  with_reducible rfl
 rotate_left
 ·
  simp only [Act.put, ss_, jc, ji]
  rfl
 refine vQ (i := 2) (N := some 8) (v := ?_) (a' := ?_) #[true, false, true, false, false, false, false, false, false, false, false, false] rfl rfl (vT HT_.out kr_) (fun _ _ _ h => h) (Or.inl ⟨by rfl, ?_⟩) ?_ ?_
 rotate_left
 ·
  intro w'
  go_simp
  with_reducible rfl
 rotate_left
 ·
  simp only [Act.put, ss_, jc, ji]
  rfl
 refine vQ (i := 5) (N := some 11) (v := ?_) (a' := ?_) #[true, false, true, false, false, true, false, false, false, false, false, false] rfl rfl (vT HT_.out kr_) (fun _ _ _ h => h) (Or.inl ⟨by rfl, ?_⟩) ?_ ?_
 rotate_left
 ·
  intro w'
  go_simp
  with_reducible rfl
 rotate_left
 ·
  simp only [Act.put, ss_, jc, ji]
  rfl
 refine vQ (i := 7) (N := some 13) (v := ?_) (a' := ?_) #[true, false, true, false, false, true, false, true, false, false, false, false] rfl rfl (vT HT_.out kr_) (fun _ _ _ h => h) (Or.inl ⟨by rfl, ?_⟩) ?_ ?_
 rotate_left
 ·
  intro w'
  go_simp
  with_reducible rfl
 rotate_left
 ·
  simp only [Act.put, ss_, jc, ji]
  rfl
 refine qA (i := 1) (N := some 7) (v := ?_) (a' := ?_) #[true, true, true, false, false, true, false, true, false, false, false, false] rfl rfl (zX HT_.out HW_.out kr_) (fun _ _ _ h => h) (Or.inl ⟨by rfl, ?_⟩) hHeld ?_ ?_
 rotate_left
 ·
  rintro w' ⟨s0, s1, s2, s3, s4, s5⟩
  go_simp
  with_reducible rfl
 rotate_left
 ·
  simp only [Act.put, ss_, jc, ji]
  rfl
 refine qA (i := 3) (N := some 9) (v := ?_) (a' := ?_) #[true, true, true, true, false, true, false, true, false, false, false, false] rfl rfl (zX HT_.out HW_.out kr_) (fun _ _ _ h => h) (Or.inl ⟨by rfl, ?_⟩) hHeld ?_ ?_
 rotate_left
 ·
  rintro w' ⟨s0, s1, s2, s3, s4, s5⟩
  go_simp
  with_reducible rfl
 rotate_left
 ·
  simp only [Act.put, ss_, jc, ji]
  rfl
 refine qA (i := 6) (N := some 12) (v := ?_) (a' := ?_) #[true, true, true, true, false, true, true, true, false, false, false, false] rfl rfl (zX HT_.out HW_.out kr_) (fun _ _ _ h => h) (Or.inl ⟨by rfl, ?_⟩) hHeld ?_ ?_
 rotate_left
 ·
  rintro w' ⟨s0, s1, s2, s3, s4, s5⟩
  go_simp
  with_reducible rfl
 rotate_left
 ·
  simp only [Act.put, ss_, jc, ji]
  rfl
 refine qA (i := 8) (N := some 14) (v := ?_) (a' := ?_) #[true, true, true, true, false, true, true, true, true, false, false, false] rfl rfl (zX HT_.out HW_.out kr_) (fun _ _ _ h => h) (Or.inl ⟨by rfl, ?_⟩) hHeld ?_ ?_
 rotate_left
 ·
  rintro w' ⟨s0, s1, s2, s3, s4, s5⟩
  go_simp
  with_reducible rfl
 rotate_left
 ·
  simp only [Act.put, ss_, jc, ji]
  rfl
 refine one_ (i := 4) (N := some 10) #[true, true, true, true, true, true, true, true, true, false, false, false] rfl rfl (qm HT_.out kr_) (by decide) (fun K hK => ?_)
 refine jAR Try.func88 kr_ rfl #[.slice A0_1 l0_1.length c0_1, .slice A1_2 l1_2.length c1_2] (by rfl) rfl rfl (by (try simp only [List.map_toArray, List.map_cons, List.map_nil]); first | done | rfl | (simp only [List.length_drop, List.length_take]; rfl)) ?_
 with_reducible refine (jg.calls k _ _ l0_1 _ _ l1_2 t296 _ ?side1 ?side2 ?side3 ?side4 A3.out).mono ?_
 (case side1 => exact cc_ (Kd.jR HR0_1.out HB.out))
 (case side2 => exact HC0_1.out)
 (case side3 => exact cc_ (Kd.jR HR1_2.out HB.out))
 (case side4 => exact HC1_2.out)
 rintro e w8 ⟨v297, rfl, ho0, hb⟩
 refine ⟨_, rfl, ?_⟩
 have n0_ := jA.mk (Kd.jV ho0 (jC (bb2_ HB GE294 GE295)))
 have n1_ := jA.mk (bl_ BK294 hb)
 have n2_ := jA.mk (bl_ BK295 hb)
 have n3_ := jA.mk (jE (bb2_ HB GE294 GE295) hb)
 clear BK294
 clear BK295
 clear HB
 have HO298 := n0_
 have BK294 := n1_
 have BK295 := n2_
 have HB := n3_
 clear n0_ n1_ n2_ n3_
 (try clear hb)
 (try clear hb2)
 (try clear hk)
 (try clear hi)
 (try clear ho0)
 refine hK.out _ _ ⟨(jB BK294.out 0).trans rfl, (jB BK294.out 1).trans rfl, (jB BK294.out 2).trans rfl, (jB BK295.out 0).trans rfl, (jB BK295.out 1).trans rfl, (jB BK295.out 2).trans rfl⟩ (fun hHeld => ?_)
 clear hK K
 refine qx (a' := ?_) ?_ ?_
 rotate_left
 ·
  show Act.put _ (some 10) _ = _
  simp only [Act.put, ss_, jc, ji]
  rfl
 refine one_ (i := 9) (N := some 15) #[true, true, true, true, true, true, true, true, true, true, false, false] rfl rfl (qm HT_.out kr_) (by decide) (fun K hK => ?_)
 refine jAR Try.func88 kr_ rfl #[.slice A1_1 l1_1.length c1_1, .slice A0_2 l0_2.length c0_2] (by rfl) rfl rfl (by (try simp only [List.map_toArray, List.map_cons, List.map_nil]); first | done | rfl | (simp only [List.length_drop, List.length_take]; rfl)) ?_
 with_reducible refine (jg.calls k _ _ l1_1 _ _ l0_2 t299 _ ?side1 ?side2 ?side3 ?side4 A4.out).mono ?_
 (case side1 => exact cc_ (Kd.jR HR1_1.out HB.out))
 (case side2 => exact HC1_1.out)
 (case side3 => exact cc_ (Kd.jR HR0_2.out HB.out))
 (case side4 => exact HC0_2.out)
 rintro e w9 ⟨v300, rfl, ho0, hb⟩
 refine ⟨_, rfl, ?_⟩
 have n0_ := jA.mk (Kd.jr (rR_ HO298) (Kd.jS ho0) hb)
 have n1_ := jA.mk (Kd.jV (Kd.jY ho0 (Kd.R_lt (rR_ HO298))) (jC (bb2_ HB GE294 GE295)))
 have n2_ := jA.mk (bl_ BK294 hb)
 have n3_ := jA.mk (bl_ BK295 hb)
 have n4_ := jA.mk (jE (bb2_ HB GE294 GE295) hb)
 clear HO298
 clear BK294
 clear BK295
 clear HB
 have HO298 := n0_
 have HO301 := n1_
 have BK294 := n2_
 have BK295 := n3_
 have HB := n4_
 clear n0_ n1_ n2_ n3_ n4_
 (try clear hb)
 (try clear hb2)
 (try clear hk)
 (try clear hi)
 (try clear ho0)
 refine hK.out _ _ ⟨(jB BK294.out 0).trans rfl, (jB BK294.out 1).trans rfl, (jB BK294.out 2).trans rfl, (jB BK295.out 0).trans rfl, (jB BK295.out 1).trans rfl, (jB BK295.out 2).trans rfl⟩ (fun hHeld => ?_)
 clear hK K
 refine qx (a' := ?_) ?_ ?_
 rotate_left
 ·
  show Act.put _ (some 15) _ = _
  simp only [Act.put, ss_, jc, ji]
  rfl
 refine vQ (i := 10) (N := some 4) (v := ?_) (a' := ?_) #[true, true, true, true, true, true, true, true, true, true, true, false] rfl rfl (vT HT_.out kr_) (fun _ _ _ h => h) (Or.inl ⟨by rfl, ?_⟩) ?_ ?_
 rotate_left
 ·
  intro w'
  go_simp
  with_reducible rfl
 rotate_left
 ·
  simp only [Act.put, ss_, jc, ji]
  rfl
 refine vQ (i := 11) (N := some 5) (v := ?_) (a' := ?_) #[true, true, true, true, true, true, true, true, true, true, true, true] rfl rfl (vT HT_.out kr_) (fun _ _ _ h => h) (Or.inl ⟨by rfl, ?_⟩) ?_ ?_
 rotate_left
 ·
  intro w'
  go_simp
  with_reducible rfl
 rotate_left
 ·
  simp only [Act.put, ss_, jc, ji]
  rfl
 refine jBI (jBc HT_.out kr_) ?_
 try go_wp2
 go_ret2
 exact ⟨_, _, ew_, by refine pR_ ?_; exact Kd.jM HO298.out (fun _ hk => hk.2), by refine pR_ ?_; exact Kd.jM HO301.out (fun _ hk => hk.2), (bb2_ HB GE294 GE295)⟩

/-! ### jh: function 108 -/
mutual
def jh.l0 : Nat → List Int → List Int → Int → Int → Option (List Int)
 | 0, _, _, _, _ => none
 | k + 1, x1, x5, x6, x7 => if x7 < (x1.length : Int) then (jh.j1 k x1 x5 x6 x7 true) else (jh.j1 k x1 x5 x6 x7 (decide (x6 > 0)))
def jh.j1 : Nat → List Int → List Int → Int → Int → Bool → Option (List Int)
 | 0, _, _, _, _, _ => none
 | k + 1, x1, x5, x6, x7, x24 => if x24 = true then (if x7 ≥ (x5.length : Int) then (if x5.length < 17592186044416 then ((some (x5 ++ [0] : List Int)).bind fun y314 => (if x7 < (x1.length : Int) then (if 0 ≤ x7 then (if x7 < (y314.length : Int) then (if x6 ≤ 1 then (jh.l0 k x1 (y314.set (x7 : Int).toNat (ad64 (rd y314 x7) (rd x1 x7) x6)) (ac64 (rd y314 x7) (rd x1 x7) x6) (wrap64 (x7 + 1))) else (none)) else (none)) else (none)) else (if 0 ≤ x7 then (if x7 < (y314.length : Int) then (if x6 ≤ 1 then (jh.l0 k x1 (y314.set (x7 : Int).toNat (ad64 (rd y314 x7) 0 x6)) (ac64 (rd y314 x7) 0 x6) (wrap64 (x7 + 1))) else (none)) else (none)) else (none)))) else (none)) else (if x7 < (x1.length : Int) then (if 0 ≤ x7 then (if x7 < (x5.length : Int) then (if x6 ≤ 1 then (jh.l0 k x1 (x5.set (x7 : Int).toNat (ad64 (rd x5 x7) (rd x1 x7) x6)) (ac64 (rd x5 x7) (rd x1 x7) x6) (wrap64 (x7 + 1))) else (none)) else (none)) else (none)) else (if 0 ≤ x7 then (if x7 < (x5.length : Int) then (if x6 ≤ 1 then (jh.l0 k x1 (x5.set (x7 : Int).toNat (ad64 (rd x5 x7) 0 x6)) (ac64 (rd x5 x7) 0 x6) (wrap64 (x7 + 1))) else (none)) else (none)) else (none)))) else ((jK.f k x5).bind fun t311 => (some t311))
end
def jh.f (k : Nat) (l0 : List Int) (l1 : List Int) : Option (List Int) := (jK.f k l0).bind fun t302 => (if (t302.length : Int) = 0 then ((jv.f k l1).bind fun t305 => (some t305)) else ((jv.f k l0).bind fun t308 => (jh.l0 k l1 t308 0 0)))
theorem jh.zF : ∀ k, (∀ y0 y1 y2 y3, LeO (jh.l0 k y0 y1 y2 y3) (jh.l0 (k + 1) y0 y1 y2 y3)) ∧ (∀ y0 y1 y2 y3 y4, LeO (jh.j1 k y0 y1 y2 y3 y4) (jh.j1 (k + 1) y0 y1 y2 y3 y4))
 | 0 => ⟨fun _ _ _ _ r h => by simp [jh.l0] at h, fun _ _ _ _ _ r h => by simp [jh.j1] at h⟩
 | k + 1 => by
  obtain ⟨ih0, ih1⟩ := jh.zF k
  refine ⟨?_, ?_⟩ <;> (intros; first | unfold jh.l0 | unfold jh.j1) <;> repeat' first
   | (with_reducible exact ih0 _ _ _ _)
   | (with_reducible exact ih1 _ _ _ _ _)
   | (with_reducible exact jv.mono _ _)
   | (with_reducible exact jK.mono _ _)
   | (with_reducible exact LeO.refl _)
   | (with_reducible exact LeO.none _)
   | (with_reducible refine LeO.ite ?_ ?_)
   | (with_reducible refine LeO.bind ?_ (fun _ => ?_))
theorem jh.mono : ∀ a0 a1 k, LeO (jh.f k a0 a1) (jh.f (k + 1) a0 a1) := by
 intro a0 a1 k
 obtain ⟨ih0, ih1⟩ := jh.zF k
 unfold jh.f
 repeat' first
   | (with_reducible exact ih0 _ _ _ _)
   | (with_reducible exact ih1 _ _ _ _ _)
   | (with_reducible exact jv.mono _ _)
   | (with_reducible exact jK.mono _ _)
   | (with_reducible exact LeO.refl _)
   | (with_reducible exact LeO.none _)
   | (with_reducible refine LeO.ite ?_ ?_)
   | (with_reducible refine LeO.bind ?_ (fun _ => ?_))
theorem jh.calls (k : Nat) (P0_ : Nat → Prop) (A0 : Option Addr) (c0 : Nat) (l0 : List Int) (A1 : Option Addr) (c1 : Nat) (l1 : List Int) (r : List Int) (w : World) (hs0 : Kd.V (Kd.int .u64) 22 w w.heap.size (fun k_ => P0_ k_) (.slice A0 l0.length c0) l0) (hr1 : Kd.C (Kd.int .u64) w A1 l1.length l1) (hc1 : l1.length ≤ c1) (h : jh.f k l0 l1 = some r) :
  Calls Try.prog 108 #[.slice A0 l0.length c0, .slice A1 l1.length c1] w fun e w' => ∃ v0_ : Value, e = .returned (v0_) ∧ Kd.V (Kd.int .u64) 22 w' w.heap.size (fun k_ => (P0_ k_ ∨ w.heap.size ≤ k_)) v0_ r ∧ Below w.heap.size w w' := by
 have HO0 := jA.mk (show Kd.V (Kd.int .u64) 22 w w.heap.size (fun k_ => (P0_ k_ ∨ w.heap.size ≤ k_)) (.slice A0 l0.length c0) l0 from Kd.vk hs0 (fun k_ hk => .inl hk))
 have HR1 := jA.mk hr1
 have HC1 := jA.mk hc1
 clear hr1 hc1
 have HB := jA.mk (Below.refl w.heap.size w)
 have H : ((jK.f k l0).bind fun t302 => (if (t302.length : Int) = 0 then ((jv.f k l1).bind fun t305 => (some t305)) else ((jv.f k l0).bind fun t308 => (jh.l0 k l1 t308 0 0)))) = some r := h
 clear h
 replace H := Option.bind_eq_some_iff.mp H
 obtain ⟨t302, A30, H⟩ := H
 replace H : (if (t302.length : Int) = 0 then ((jv.f k l1).bind fun t305 => (some t305)) else ((jv.f k l0).bind fun t308 => (jh.l0 k l1 t308 0 0))) = some r := H
 have A3 := jA.mk A30
 clear A30
 by_cases c4 : (t302.length : Int) = 0
 ·
  rw [if_pos c4] at H
  have c4b0 : ((t302.length : Int) == 0) = true := beq_iff_eq.mpr c4
  have c4b1 : ((t302.length : Int) != 0) = false := bne_eq_false_iff_eq.mpr c4
  clear c4
  replace H := Option.bind_eq_some_iff.mp H
  obtain ⟨t305, A50, H⟩ := H
  replace H : (some t305) = some r := H
  have A5 := jA.mk A50
  clear A50
  obtain rfl := Option.some.inj H
  go_enter Try.func108, Try.ntmps108
  go_wp2_with (first | ((with_reducible refine jH (f := 110) rfl ?_); refine jq (some 10) rfl rfl Try.func110 kr_ rfl #[.slice A0 l0.length c0] rfl mt_ ?_; (with_reducible refine (jK.calls k (fun k_ => (P0_ k_ ∨ w.heap.size ≤ k_)) _ _ l0 t302 _ ?side1 A3.out).mono ?_); (case side1 => exact HO0.out); rintro e w6 ⟨v303, rfl, ho0, hb⟩; refine ⟨_, rfl, ?_⟩; have n0_ := jA.mk (Kd.qN (rV_ HO0) hb); have n1_ := jA.mk (Kd.zM (Kd.vk (ok' := fun k_ => (P0_ k_ ∨ w.heap.size ≤ k_)) ho0 (fun k_ hk_ => Or.elim hk_ (fun hs_ => hs_) (fun hn_ => (.inr (Nat.le_trans (jC (bb_ HB)) hn_))))) (jC (bb_ HB))); have n2_ := jA.mk (jE (bb_ HB) hb); clear HO0 HB; have HO0 := n0_; have HO304 := n1_; have HB := n2_; clear n0_ n1_ n2_; obtain ⟨Ao7, co7, eo7⟩ := Kd.zH HO304.out; subst eo7) | ((with_reducible refine jH (f := 96) rfl ?_); refine jq (some 14) rfl rfl Try.func96 kr_ rfl #[.slice A1 l1.length c1] rfl mt_ ?_; (with_reducible refine (jv.calls k _ _ l1 t305 _ ?side1 ?side2 A5.out).mono ?_); (case side1 => exact cc_ (Kd.jR HR1.out HB.out)); (case side2 => exact HC1.out); rintro e w8 ⟨v306, rfl, ho0, hb⟩; refine ⟨_, rfl, ?_⟩; have n0_ := jA.mk (Kd.zV (rV_ HO0) (Kd.jS ho0) hb); have n1_ := jA.mk (Kd.zV (rV_ HO304) (Kd.jS ho0) hb); have n2_ := jA.mk (Kd.jV (Kd.jBf (M := fun k_ => (w.heap.size ≤ k_)) ho0 (jC (bb_ HB)) (fun k_ h_ => h_)) (jC (bb_ HB))); have n3_ := jA.mk (jE (bb_ HB) hb); clear HO0 HO304 HB; have HO0 := n0_; have HO304 := n1_; have HO307 := n2_; have HB := n3_; clear n0_ n1_ n2_ n3_))
  go_ret
  exact ⟨_, ew_, Kd.vk (Kd.R_V (by refine pR_ ?_; exact Kd.jM HO307.out (fun _ hk => hk.1))) (fun k_ hk => by first | exact ⟨(.inr (hk.1)), hk.2⟩ | exact (.inr (hk))), (bb_ HB)⟩
 ·
  rw [if_neg c4] at H
  have c4b0 : ((t302.length : Int) == 0) = false := beq_eq_false_iff_ne.mpr c4
  have c4b1 : ((t302.length : Int) != 0) = true := bne_iff_ne.mpr c4
  have c4b2 : ¬ (t302 = []) := fun h_ => c4 (by rw [h_]; rfl)
  replace H := Option.bind_eq_some_iff.mp H
  obtain ⟨t308, A90, H⟩ := H
  replace H : (jh.l0 k l1 t308 0 0) = some r := H
  have A9 := jA.mk A90
  clear A90
  have H' := jA.mk H
  clear H
  go_enter Try.func108, Try.ntmps108
  go_wp2_with (first | ((with_reducible refine jH (f := 110) rfl ?_); refine jq (some 10) rfl rfl Try.func110 kr_ rfl #[.slice A0 l0.length c0] rfl mt_ ?_; (with_reducible refine (jK.calls k (fun k_ => (P0_ k_ ∨ w.heap.size ≤ k_)) _ _ l0 t302 _ ?side1 A3.out).mono ?_); (case side1 => exact HO0.out); rintro e w10 ⟨v303, rfl, ho0, hb⟩; refine ⟨_, rfl, ?_⟩; have n0_ := jA.mk (Kd.qN (rV_ HO0) hb); have n1_ := jA.mk (Kd.zM (Kd.vk (ok' := fun k_ => (P0_ k_ ∨ w.heap.size ≤ k_)) ho0 (fun k_ hk_ => Or.elim hk_ (fun hs_ => hs_) (fun hn_ => (.inr (Nat.le_trans (jC (bb_ HB)) hn_))))) (jC (bb_ HB))); have n2_ := jA.mk (jE (bb_ HB) hb); clear HO0 HB; have HO0 := n0_; have HO304 := n1_; have HB := n2_; clear n0_ n1_ n2_; obtain ⟨Ao11, co11, eo11⟩ := Kd.zH HO304.out; subst eo11) | ((with_reducible refine jH (f := 96) rfl ?_); refine jq (some 16) rfl rfl Try.func96 kr_ rfl #[.slice A0 l0.length c0] rfl mt_ ?_; (with_reducible refine (jv.calls k _ _ l0 t308 _ ?side1 ?side2 A9.out).mono ?_); (case side1 => repeat (first | exact (Kd.vS HO0.out).2.2 | (with_reducible refine Kd.zm ?_ _) | (with_reducible refine Kd.qI ?_ _) | (with_reducible refine Kd.qw ?_))); (case side2 => exact (Kd.vS HO0.out).2.1); rintro e w12 ⟨v309, rfl, ho0, hb⟩; refine ⟨_, rfl, ?_⟩; have n0_ := jA.mk (Kd.zV (rV_ HO0) (Kd.jS ho0) hb); have n1_ := jA.mk (Kd.zV (rV_ HO304) (Kd.jS ho0) hb); have n2_ := jA.mk (Kd.jV (Kd.jBf (M := fun k_ => (w.heap.size ≤ k_)) ho0 (jC (bb_ HB)) (fun k_ h_ => h_)) (jC (bb_ HB))); have n3_ := jA.mk (jE (bb_ HB) hb); clear HO0 HO304 HB; have HO0 := n0_; have HO304 := n1_; have HO310 := n2_; have HB := n3_; clear n0_ n1_ n2_ n3_))
  go_loopg [5, 6, 7] k (fun kq v5 v6 v7 w' => ∃ (x5_1 : List Int) (x6_1 : Int) (x7_1 : Int), v6 = .int .u64 x6_1 ∧ v7 = .int .i64 x7_1 ∧ jA (jh.l0 kq l1 x5_1 x6_1 x7_1 = some r) ∧ jA (kq ≤ k) ∧ jA (Kd.R (Kd.int .u64) 22 w' w.heap.size (fun k_ => (w.heap.size ≤ k_)) v5 x5_1) ∧ jA (Below w.heap.size w w'))
  case atStart => exact ⟨(t308), (0), (0), sd_, sd_, H', ⟨Nat.le_refl _⟩, ⟨by (with_reducible repeat (first | apply Kd.zQ | apply Kd.zh | apply Kd.zY)); exact Kd.jM HO310.out (fun _ hk => hk.1)⟩, ⟨(bb_ HB)⟩⟩
  case round =>
   clear H'
   try clear c1
   try clear p2
   try clear c4
   try clear c4b0
   try clear c4b1
   try clear c4b2
   try clear c9
   try clear c10
   try clear c11
   obtain ⟨x5_1, x6_1, x7_1, rfl, rfl, HA, HK1, HO_5, HB⟩ := hrel
   cases gk with
   | zero => exact absurd HA.out (by simp [jh.l0])
   | succ k1 =>
    have H := HA.out
    clear HA
    simp only [jh.l0] at H
    have HC13 := jA.mk H
    clear H
    go_upto_region 6 with (fail)
    go_cut [24] (fun v24 wc => ∃ (kq : Nat) (x24_12 : Bool), v24 = .bool x24_12 ∧ jA (jh.j1 kq l1 x5_1 x6_1 x7_1 x24_12 = some r) ∧ jA (kq ≤ k1) ∧ jA (Kd.R (Kd.int .u64) 22 wc w.heap.size (fun k_ => (w.heap.size ≤ k_)) u5 x5_1) ∧ jA (Below w.heap.size w wc))
    case first =>
     have H := HC13.out
     clear HC13
     by_cases c14 : x7_1 < (l1.length : Int)
     ·
      rw [if_pos c14] at H
      have c14b0 : decide (x7_1 < (l1.length : Int)) = true := decide_eq_true c14
      clear c14
      (first | rw [c14b0] | (simp only [jc, ji]; rw [c14b0]) | skip)
      have H' := jA.mk H
      clear H
      go_wp2
      go_meet
      case rel => exact ⟨_, (true), sd_, H', ⟨by have := HK1.out; first | omega | exact Nat.le_refl _⟩, ⟨(rR_ HO_5)⟩, ⟨(bb_ HB)⟩⟩
     ·
      rw [if_neg c14] at H
      have c14b0 : decide (x7_1 < (l1.length : Int)) = false := decide_eq_false c14
      clear c14
      (first | rw [c14b0] | (simp only [jc, ji]; rw [c14b0]) | skip)
      have H' := jA.mk H
      clear H
      go_wp2
      go_meet
      case rel => exact ⟨_, (decide (x6_1 > 0)), sd_, H', ⟨by have := HK1.out; first | omega | exact Nat.le_refl _⟩, ⟨(rR_ HO_5)⟩, ⟨(bb_ HB)⟩⟩
    case rest =>
     clear HC13
     try clear c1
     try clear p2
     try clear c4
     try clear c4b0
     try clear c4b1
     try clear c4b2
     try clear c9
     try clear c10
     try clear c11
     try clear c14
     try clear c14b0
     try clear p2
     obtain ⟨kq, x24_12, rfl, HA, HJ12, HO_5, HB⟩ := hcut
     cases kq with
     | zero => exact absurd HA.out (by simp [jh.j1])
     | succ kj12 =>
      have H := HA.out
      clear HA
      simp only [jh.j1] at H
      by_cases c15 : x24_12 = true
      ·
       subst c15
       have H1 : (if x7_1 ≥ (x5_1.length : Int) then (if x5_1.length < 17592186044416 then ((some (x5_1 ++ [0] : List Int)).bind fun y314 => (if x7_1 < (l1.length : Int) then (if 0 ≤ x7_1 then (if x7_1 < (y314.length : Int) then (if x6_1 ≤ 1 then (jh.l0 kj12 l1 (y314.set (x7_1 : Int).toNat (ad64 (rd y314 x7_1) (rd l1 x7_1) x6_1)) (ac64 (rd y314 x7_1) (rd l1 x7_1) x6_1) (wrap64 (x7_1 + 1))) else (none)) else (none)) else (none)) else (if 0 ≤ x7_1 then (if x7_1 < (y314.length : Int) then (if x6_1 ≤ 1 then (jh.l0 kj12 l1 (y314.set (x7_1 : Int).toNat (ad64 (rd y314 x7_1) 0 x6_1)) (ac64 (rd y314 x7_1) 0 x6_1) (wrap64 (x7_1 + 1))) else (none)) else (none)) else (none)))) else (none)) else (if x7_1 < (l1.length : Int) then (if 0 ≤ x7_1 then (if x7_1 < (x5_1.length : Int) then (if x6_1 ≤ 1 then (jh.l0 kj12 l1 (x5_1.set (x7_1 : Int).toNat (ad64 (rd x5_1 x7_1) (rd l1 x7_1) x6_1)) (ac64 (rd x5_1 x7_1) (rd l1 x7_1) x6_1) (wrap64 (x7_1 + 1))) else (none)) else (none)) else (none)) else (if 0 ≤ x7_1 then (if x7_1 < (x5_1.length : Int) then (if x6_1 ≤ 1 then (jh.l0 kj12 l1 (x5_1.set (x7_1 : Int).toNat (ad64 (rd x5_1 x7_1) 0 x6_1)) (ac64 (rd x5_1 x7_1) 0 x6_1) (wrap64 (x7_1 + 1))) else (none)) else (none)) else (none)))) = some r := by rw [if_pos rfl] at H; exact H
       clear H
       have H := H1
       clear H1
       by_cases c16 : x7_1 ≥ (x5_1.length : Int)
       ·
        rw [if_pos c16] at H
        have c16b0 : decide ((x5_1.length : Int) ≤ x7_1) = true := decide_eq_true c16
        clear c16
        by_cases c17 : x5_1.length < 17592186044416
        ·
         rw [if_pos c17] at H
         have LMc17 := jA.mk c17
         clear c17
         obtain ⟨y314, hy314⟩ : ∃ y_ : List Int, y_ = (x5_1 ++ [0]) := ⟨_, rfl⟩
         replace H : (if x7_1 < (l1.length : Int) then (if 0 ≤ x7_1 then (if x7_1 < (y314.length : Int) then (if x6_1 ≤ 1 then (jh.l0 kj12 l1 (y314.set (x7_1 : Int).toNat (ad64 (rd y314 x7_1) (rd l1 x7_1) x6_1)) (ac64 (rd y314 x7_1) (rd l1 x7_1) x6_1) (wrap64 (x7_1 + 1))) else (none)) else (none)) else (none)) else (if 0 ≤ x7_1 then (if x7_1 < (y314.length : Int) then (if x6_1 ≤ 1 then (jh.l0 kj12 l1 (y314.set (x7_1 : Int).toNat (ad64 (rd y314 x7_1) 0 x6_1)) (ac64 (rd y314 x7_1) 0 x6_1) (wrap64 (x7_1 + 1))) else (none)) else (none)) else (none))) = some r := by first | (rw [hy314]; with_reducible exact H) | (have H2_ := (Option.bind_some _ _).symm.trans H; rw [hy314]; with_reducible exact H2_) | (with_reducible exact hs_ H) | with_reducible exact H | (rw [hy314]; exact H) | exact H
         have Ny314 := jA.mk hy314
         clear hy314
         by_cases c18 : x7_1 < (l1.length : Int)
         ·
          rw [if_pos c18] at H
          have c18b0 : decide (x7_1 < (l1.length : Int)) = true := decide_eq_true c18
          clear c18
          by_cases c19 : 0 ≤ x7_1
          ·
           rw [if_pos c19] at H
           have c19b0 : decide (0 ≤ x7_1) = true := decide_eq_true c19
           clear c19
           by_cases c20 : x7_1 < (y314.length : Int)
           ·
            rw [if_pos c20] at H
            have c20b0 : decide (x7_1 < (y314.length : Int)) = true := decide_eq_true c20
            clear c20
            by_cases c21 : x6_1 ≤ 1
            ·
             rw [if_pos c21] at H
             have c21b0 : decide (x6_1 ≤ 1) = true := decide_eq_true c21
             clear c21
             obtain ⟨y319, hy319⟩ : ∃ y_ : List Int, y_ = (y314.set (x7_1 : Int).toNat (ad64 (rd y314 x7_1) (rd l1 x7_1) x6_1)) := ⟨_, rfl⟩
             replace H : (jh.l0 kj12 l1 y319 (ac64 (rd y314 x7_1) (rd l1 x7_1) x6_1) (wrap64 (x7_1 + 1))) = some r := by first | (rw [hy319]; with_reducible exact H) | (have H2_ := (Option.bind_some _ _).symm.trans H; rw [hy319]; with_reducible exact H2_) | (with_reducible exact hs_ H) | with_reducible exact H | (rw [hy319]; exact H) | exact H
             have Ny319 := jA.mk hy319
             clear hy319
             have H' := jA.mk H
             clear H
             obtain ⟨Ao23, co23, eo23⟩ := Kd.jf HO_5.out
             subst eo23
             go_wp2_with (first | ((with_reducible refine zW (b := .append) (xs := #[.tmp 31, .tmp 32]) rfl ?_); at_builtin; refine Kd.jAi (Kd.int .u64) (w0 := w) w.heap.size rfl (.tmp 31) (.tmp 32) 35 22 (.int .u64 0) 8 rfl Try.underlying35 qR rfl (by decide) (by omega) (.slice Ao23 x5_1.length co23) x5_1 0 [.int .u64 0] (fun k_ => (w.heap.size ≤ k_)) (fun _ => False) rfl rfl ?aP (fun _ hk => hk.elim) ?aF ?aO ?aB ?aS ?aL ?_; (case aP => exact rfl); (case aB => exact (bb_ HB)); (case aF => exact (fun k_ hk => (Nat.le_trans (jC (bb_ HB)) hk))); (case aO => exact (rR_ HO_5)); (case aS => exact (jC (bb_ HB))); (case aL => have := LMc17.out; omega); intro v315 w24 ho hb hg hat; rw [← Ny314.out] at ho; have n0_ := jA.mk (hb); have n1_ := jA.mk (ho); clear HB HO_5; have HB := n0_; have HO316 := n1_; clear n0_ n1_ ho hb hg hat; have p317 : 0 ≤ (x7_1 : Int) := of_decide_eq_true am_; have q317 : x7_1 < (l1.length : Int) := of_decide_eq_true am_; obtain ⟨ad317, e317, hx317_0⟩ := Kd.zG HR1.out x7_1 p317 q317; cases e317; replace hx317_0 := (HB.out.cell (World.block_lt_of_cell? w _ hx317_0)).trans hx317_0; replace p317 := eq_true p317; replace q317 := eq_true q317; obtain ⟨Ao25, co25, eo25⟩ := Kd.jf HO316.out; subst eo25; have p318 : 0 ≤ (x7_1 : Int) := of_decide_eq_true am_; have q318 : x7_1 < (y314.length : Int) := of_decide_eq_true am_; obtain ⟨ad318, e318, hx318_0⟩ := Kd.zG (Kd.jG HO316.out).2.2 x7_1 p318 q318; cases e318; replace p318 := eq_true p318; replace q318 := eq_true q318; have p22 : 0 ≤ (x7_1 : Int) := of_decide_eq_true am_; have q22 : (x7_1 : Int) < ((y314.length : Int) : Int) := of_decide_eq_true am_; obtain ⟨go22, co22, eo22, gb22, gl22, cl22, HG22⟩ := Kd.jAD HO316.out (by omega); (first | cases eo22 | (injection eo22 with ea_ en_ ec_; (first | subst ea_ | (injection ea_ with ea_; subst ea_)); subst ec_; clear en_)); have GB22 := jA.mk gb22; have GG22 := jA.mk HG22; clear gb22 gl22 HG22; (first | simp only [add_plain] at hx318_0 | skip); obtain ⟨hx22_0, hf22_0⟩ := Kd.zy 0 HO316.out (x7_1 : Int) p22 q22; replace p22 := eq_true p22; replace q22 := eq_true q22; obtain ⟨hy26_, hz26_⟩ := Kd.zy 0 HO316.out (x7_1 : Int) (of_decide_eq_true am_) (of_decide_eq_true am_); have HP26 := Kd.jAW HO316.out (x7_1 : Int) (ad64 (rd y314 x7_1) (rd l1 x7_1) x6_1)) | ((with_reducible refine qL (t := 22) (p := 54) rfl ?_); refine zq (t := 22) (p := 54) (v := ?vo_w27) (w1 := (w24.setCell ⟨go22, (x7_1 : Int).toNat, none⟩ (.int .u64 (ad64 (rd y314 x7_1) (rd l1 x7_1) x6_1)))) ?hg ?ho ?hn ?hr ?_; (case ho => rfl); (case hg => rfl); (case hn => rfl); (case hr => exact gs_); intro w27 hw; have hg : w24.grownBy w27 (some go22) := (by rw [hw]; exact HP26.2); have hp_ : Kd.R (Kd.int .u64) 22 w27 w.heap.size (fun k_ => (w.heap.size ≤ k_)) (.slice (some ⟨go22, 0, none⟩) y314.length co25) y319 := (by rw [hw, Ny319.out]; exact HP26.1); clear HP26; have n0_ := jA.mk (hp_); have n1_ := jA.mk ((by rw [hw]; exact vZ (HB.out) GB22.out : Below w.heap.size w w27)); clear HO316 HB; have HO316 := n0_; have HB := n1_; clear n0_ n1_ hg hw hp_))
             go_roundg kj12
             case measure => have := HK1.out; have := HJ12.out; omega
             case rel => exact ⟨(y319), (ac64 (rd y314 x7_1) (rd l1 x7_1) x6_1), (wrap64 (x7_1 + 1)), sd_, sd_, H', ⟨by have := HK1.out; have := HJ12.out; omega⟩, ⟨(rR_ HO316)⟩, ⟨(bb_ HB)⟩⟩
            ·
             rw [if_neg c21] at H
             exact absurd H (by simp)
           ·
            rw [if_neg c20] at H
            exact absurd H (by simp)
          ·
           rw [if_neg c19] at H
           exact absurd H (by simp)
         ·
          rw [if_neg c18] at H
          have c18b0 : decide (x7_1 < (l1.length : Int)) = false := decide_eq_false c18
          clear c18
          by_cases c28 : 0 ≤ x7_1
          ·
           rw [if_pos c28] at H
           have c28b0 : decide (0 ≤ x7_1) = true := decide_eq_true c28
           clear c28
           by_cases c29 : x7_1 < (y314.length : Int)
           ·
            rw [if_pos c29] at H
            have c29b0 : decide (x7_1 < (y314.length : Int)) = true := decide_eq_true c29
            clear c29
            by_cases c30 : x6_1 ≤ 1
            ·
             rw [if_pos c30] at H
             have c30b0 : decide (x6_1 ≤ 1) = true := decide_eq_true c30
             clear c30
             obtain ⟨y321, hy321⟩ : ∃ y_ : List Int, y_ = (y314.set (x7_1 : Int).toNat (ad64 (rd y314 x7_1) 0 x6_1)) := ⟨_, rfl⟩
             replace H : (jh.l0 kj12 l1 y321 (ac64 (rd y314 x7_1) 0 x6_1) (wrap64 (x7_1 + 1))) = some r := by first | (rw [hy321]; with_reducible exact H) | (have H2_ := (Option.bind_some _ _).symm.trans H; rw [hy321]; with_reducible exact H2_) | (with_reducible exact hs_ H) | with_reducible exact H | (rw [hy321]; exact H) | exact H
             have Ny321 := jA.mk hy321
             clear hy321
             have H' := jA.mk H
             clear H
             obtain ⟨Ao32, co32, eo32⟩ := Kd.jf HO_5.out
             subst eo32
             go_wp2_with (first | ((with_reducible refine zW (b := .append) (xs := #[.tmp 31, .tmp 32]) rfl ?_); at_builtin; refine Kd.jAi (Kd.int .u64) (w0 := w) w.heap.size rfl (.tmp 31) (.tmp 32) 35 22 (.int .u64 0) 8 rfl Try.underlying35 qR rfl (by decide) (by omega) (.slice Ao32 x5_1.length co32) x5_1 0 [.int .u64 0] (fun k_ => (w.heap.size ≤ k_)) (fun _ => False) rfl rfl ?aP (fun _ hk => hk.elim) ?aF ?aO ?aB ?aS ?aL ?_; (case aP => exact rfl); (case aB => exact (bb_ HB)); (case aF => exact (fun k_ hk => (Nat.le_trans (jC (bb_ HB)) hk))); (case aO => exact (rR_ HO_5)); (case aS => exact (jC (bb_ HB))); (case aL => have := LMc17.out; omega); intro v315 w33 ho hb hg hat; rw [← Ny314.out] at ho; have n0_ := jA.mk (hb); have n1_ := jA.mk (ho); clear HB HO_5; have HB := n0_; have HO316 := n1_; clear n0_ n1_ ho hb hg hat; obtain ⟨Ao34, co34, eo34⟩ := Kd.jf HO316.out; subst eo34; have p320 : 0 ≤ (x7_1 : Int) := of_decide_eq_true am_; have q320 : x7_1 < (y314.length : Int) := of_decide_eq_true am_; obtain ⟨ad320, e320, hx320_0⟩ := Kd.zG (Kd.jG HO316.out).2.2 x7_1 p320 q320; cases e320; replace p320 := eq_true p320; replace q320 := eq_true q320; have p31 : 0 ≤ (x7_1 : Int) := of_decide_eq_true am_; have q31 : (x7_1 : Int) < ((y314.length : Int) : Int) := of_decide_eq_true am_; obtain ⟨go31, co31, eo31, gb31, gl31, cl31, HG31⟩ := Kd.jAD HO316.out (by omega); (first | cases eo31 | (injection eo31 with ea_ en_ ec_; (first | subst ea_ | (injection ea_ with ea_; subst ea_)); subst ec_; clear en_)); have GB31 := jA.mk gb31; have GG31 := jA.mk HG31; clear gb31 gl31 HG31; (first | simp only [add_plain] at hx320_0 | skip); obtain ⟨hx31_0, hf31_0⟩ := Kd.zy 0 HO316.out (x7_1 : Int) p31 q31; replace p31 := eq_true p31; replace q31 := eq_true q31; obtain ⟨hy35_, hz35_⟩ := Kd.zy 0 HO316.out (x7_1 : Int) (of_decide_eq_true am_) (of_decide_eq_true am_); have HP35 := Kd.jAW HO316.out (x7_1 : Int) (ad64 (rd y314 x7_1) 0 x6_1)) | ((with_reducible refine qL (t := 22) (p := 54) rfl ?_); refine zq (t := 22) (p := 54) (v := ?vo_w36) (w1 := (w33.setCell ⟨go31, (x7_1 : Int).toNat, none⟩ (.int .u64 (ad64 (rd y314 x7_1) 0 x6_1)))) ?hg ?ho ?hn ?hr ?_; (case ho => rfl); (case hg => rfl); (case hn => rfl); (case hr => exact gs_); intro w36 hw; have hg : w33.grownBy w36 (some go31) := (by rw [hw]; exact HP35.2); have hp_ : Kd.R (Kd.int .u64) 22 w36 w.heap.size (fun k_ => (w.heap.size ≤ k_)) (.slice (some ⟨go31, 0, none⟩) y314.length co34) y321 := (by rw [hw, Ny321.out]; exact HP35.1); clear HP35; have n0_ := jA.mk (hp_); have n1_ := jA.mk ((by rw [hw]; exact vZ (HB.out) GB31.out : Below w.heap.size w w36)); clear HO316 HB; have HO316 := n0_; have HB := n1_; clear n0_ n1_ hg hw hp_))
             go_roundg kj12
             case measure => have := HK1.out; have := HJ12.out; omega
             case rel => exact ⟨(y321), (ac64 (rd y314 x7_1) 0 x6_1), (wrap64 (x7_1 + 1)), sd_, sd_, H', ⟨by have := HK1.out; have := HJ12.out; omega⟩, ⟨(rR_ HO316)⟩, ⟨(bb_ HB)⟩⟩
            ·
             rw [if_neg c30] at H
             exact absurd H (by simp)
           ·
            rw [if_neg c29] at H
            exact absurd H (by simp)
          ·
           rw [if_neg c28] at H
           exact absurd H (by simp)
        ·
         rw [if_neg c17] at H
         exact absurd H (by simp)
       ·
        rw [if_neg c16] at H
        have c16b0 : decide ((x5_1.length : Int) ≤ x7_1) = false := decide_eq_false c16
        clear c16
        by_cases c37 : x7_1 < (l1.length : Int)
        ·
         rw [if_pos c37] at H
         have c37b0 : decide (x7_1 < (l1.length : Int)) = true := decide_eq_true c37
         clear c37
         by_cases c38 : 0 ≤ x7_1
         ·
          rw [if_pos c38] at H
          have c38b0 : decide (0 ≤ x7_1) = true := decide_eq_true c38
          clear c38
          by_cases c39 : x7_1 < (x5_1.length : Int)
          ·
           rw [if_pos c39] at H
           have c39b0 : decide (x7_1 < (x5_1.length : Int)) = true := decide_eq_true c39
           clear c39
           by_cases c40 : x6_1 ≤ 1
           ·
            rw [if_pos c40] at H
            have c40b0 : decide (x6_1 ≤ 1) = true := decide_eq_true c40
            clear c40
            obtain ⟨y324, hy324⟩ : ∃ y_ : List Int, y_ = (x5_1.set (x7_1 : Int).toNat (ad64 (rd x5_1 x7_1) (rd l1 x7_1) x6_1)) := ⟨_, rfl⟩
            replace H : (jh.l0 kj12 l1 y324 (ac64 (rd x5_1 x7_1) (rd l1 x7_1) x6_1) (wrap64 (x7_1 + 1))) = some r := by first | (rw [hy324]; with_reducible exact H) | (have H2_ := (Option.bind_some _ _).symm.trans H; rw [hy324]; with_reducible exact H2_) | (with_reducible exact hs_ H) | with_reducible exact H | (rw [hy324]; exact H) | exact H
            have Ny324 := jA.mk hy324
            clear hy324
            have H' := jA.mk H
            clear H
            obtain ⟨Ao42, co42, eo42⟩ := Kd.jf HO_5.out
            subst eo42
            have p322 : 0 ≤ (x7_1 : Int) := of_decide_eq_true am_
            have q322 : x7_1 < (l1.length : Int) := of_decide_eq_true am_
            obtain ⟨ad322, e322, hx322_0⟩ := Kd.zG HR1.out x7_1 p322 q322
            cases e322
            replace hx322_0 := (HB.out.cell (World.block_lt_of_cell? w _ hx322_0)).trans hx322_0
            replace p322 := eq_true p322
            replace q322 := eq_true q322
            have p323 : 0 ≤ (x7_1 : Int) := of_decide_eq_true am_
            have q323 : x7_1 < (x5_1.length : Int) := of_decide_eq_true am_
            obtain ⟨ad323, e323, hx323_0⟩ := Kd.zG (Kd.jG HO_5.out).2.2 x7_1 p323 q323
            cases e323
            replace p323 := eq_true p323
            replace q323 := eq_true q323
            have p41 : 0 ≤ (x7_1 : Int) := of_decide_eq_true am_
            have q41 : (x7_1 : Int) < ((x5_1.length : Int) : Int) := of_decide_eq_true am_
            obtain ⟨go41, co41, eo41, gb41, gl41, cl41, HG41⟩ := Kd.jAD HO_5.out (by omega)
            (first | cases eo41 | (injection eo41 with ea_ en_ ec_; (first | subst ea_ | (injection ea_ with ea_; subst ea_)); subst ec_; clear en_))
            have GB41 := jA.mk gb41
            have GG41 := jA.mk HG41
            clear gb41 gl41 HG41
            (first | simp only [add_plain] at hx323_0 | skip)
            obtain ⟨hx41_0, hf41_0⟩ := Kd.zy 0 HO_5.out (x7_1 : Int) p41 q41
            replace p41 := eq_true p41
            replace q41 := eq_true q41
            have HP43 := Kd.jAW HO_5.out (x7_1 : Int) (ad64 (rd x5_1 x7_1) (rd l1 x7_1) x6_1)
            go_wp2_with (first | ((with_reducible refine qL (t := 22) (p := 54) rfl ?_); refine zq (t := 22) (p := 54) (v := ?vo_w44) (w1 := (wc.setCell ⟨go41, (x7_1 : Int).toNat, none⟩ (.int .u64 (ad64 (rd x5_1 x7_1) (rd l1 x7_1) x6_1)))) ?hg ?ho ?hn ?hr ?_; (case ho => rfl); (case hg => rfl); (case hn => rfl); (case hr => exact gs_); intro w44 hw; have hg : wc.grownBy w44 (some go41) := (by rw [hw]; exact HP43.2); have hp_ : Kd.R (Kd.int .u64) 22 w44 w.heap.size (fun k_ => (w.heap.size ≤ k_)) (.slice (some ⟨go41, 0, none⟩) x5_1.length co42) y324 := (by rw [hw, Ny324.out]; exact HP43.1); clear HP43; have n0_ := jA.mk (hp_); have n1_ := jA.mk ((by rw [hw]; exact vZ (HB.out) GB41.out : Below w.heap.size w w44)); clear HO_5 HB; have HO_5 := n0_; have HB := n1_; clear n0_ n1_ hg hw hp_))
            go_roundg kj12
            case measure => have := HK1.out; have := HJ12.out; omega
            case rel => exact ⟨(y324), (ac64 (rd x5_1 x7_1) (rd l1 x7_1) x6_1), (wrap64 (x7_1 + 1)), sd_, sd_, H', ⟨by have := HK1.out; have := HJ12.out; omega⟩, ⟨(rR_ HO_5)⟩, ⟨(bb_ HB)⟩⟩
           ·
            rw [if_neg c40] at H
            exact absurd H (by simp)
          ·
           rw [if_neg c39] at H
           exact absurd H (by simp)
         ·
          rw [if_neg c38] at H
          exact absurd H (by simp)
        ·
         rw [if_neg c37] at H
         have c37b0 : decide (x7_1 < (l1.length : Int)) = false := decide_eq_false c37
         clear c37
         by_cases c45 : 0 ≤ x7_1
         ·
          rw [if_pos c45] at H
          have c45b0 : decide (0 ≤ x7_1) = true := decide_eq_true c45
          clear c45
          by_cases c46 : x7_1 < (x5_1.length : Int)
          ·
           rw [if_pos c46] at H
           have c46b0 : decide (x7_1 < (x5_1.length : Int)) = true := decide_eq_true c46
           clear c46
           by_cases c47 : x6_1 ≤ 1
           ·
            rw [if_pos c47] at H
            have c47b0 : decide (x6_1 ≤ 1) = true := decide_eq_true c47
            clear c47
            obtain ⟨y326, hy326⟩ : ∃ y_ : List Int, y_ = (x5_1.set (x7_1 : Int).toNat (ad64 (rd x5_1 x7_1) 0 x6_1)) := ⟨_, rfl⟩
            replace H : (jh.l0 kj12 l1 y326 (ac64 (rd x5_1 x7_1) 0 x6_1) (wrap64 (x7_1 + 1))) = some r := by first | (rw [hy326]; with_reducible exact H) | (have H2_ := (Option.bind_some _ _).symm.trans H; rw [hy326]; with_reducible exact H2_) | (with_reducible exact hs_ H) | with_reducible exact H | (rw [hy326]; exact H) | exact H
            have Ny326 := jA.mk hy326
            clear hy326
            have H' := jA.mk H
            clear H
            obtain ⟨Ao49, co49, eo49⟩ := Kd.jf HO_5.out
            subst eo49
            have p325 : 0 ≤ (x7_1 : Int) := of_decide_eq_true am_
            have q325 : x7_1 < (x5_1.length : Int) := of_decide_eq_true am_
            obtain ⟨ad325, e325, hx325_0⟩ := Kd.zG (Kd.jG HO_5.out).2.2 x7_1 p325 q325
            cases e325
            replace p325 := eq_true p325
            replace q325 := eq_true q325
            have p48 : 0 ≤ (x7_1 : Int) := of_decide_eq_true am_
            have q48 : (x7_1 : Int) < ((x5_1.length : Int) : Int) := of_decide_eq_true am_
            obtain ⟨go48, co48, eo48, gb48, gl48, cl48, HG48⟩ := Kd.jAD HO_5.out (by omega)
            (first | cases eo48 | (injection eo48 with ea_ en_ ec_; (first | subst ea_ | (injection ea_ with ea_; subst ea_)); subst ec_; clear en_))
            have GB48 := jA.mk gb48
            have GG48 := jA.mk HG48
            clear gb48 gl48 HG48
            (first | simp only [add_plain] at hx325_0 | skip)
            obtain ⟨hx48_0, hf48_0⟩ := Kd.zy 0 HO_5.out (x7_1 : Int) p48 q48
            replace p48 := eq_true p48
            replace q48 := eq_true q48
            have HP50 := Kd.jAW HO_5.out (x7_1 : Int) (ad64 (rd x5_1 x7_1) 0 x6_1)
            go_wp2_with (first | ((with_reducible refine qL (t := 22) (p := 54) rfl ?_); refine zq (t := 22) (p := 54) (v := ?vo_w51) (w1 := (wc.setCell ⟨go48, (x7_1 : Int).toNat, none⟩ (.int .u64 (ad64 (rd x5_1 x7_1) 0 x6_1)))) ?hg ?ho ?hn ?hr ?_; (case ho => rfl); (case hg => rfl); (case hn => rfl); (case hr => exact gs_); intro w51 hw; have hg : wc.grownBy w51 (some go48) := (by rw [hw]; exact HP50.2); have hp_ : Kd.R (Kd.int .u64) 22 w51 w.heap.size (fun k_ => (w.heap.size ≤ k_)) (.slice (some ⟨go48, 0, none⟩) x5_1.length co49) y326 := (by rw [hw, Ny326.out]; exact HP50.1); clear HP50; have n0_ := jA.mk (hp_); have n1_ := jA.mk ((by rw [hw]; exact vZ (HB.out) GB48.out : Below w.heap.size w w51)); clear HO_5 HB; have HO_5 := n0_; have HB := n1_; clear n0_ n1_ hg hw hp_))
            go_roundg kj12
            case measure => have := HK1.out; have := HJ12.out; omega
            case rel => exact ⟨(y326), (ac64 (rd x5_1 x7_1) 0 x6_1), (wrap64 (x7_1 + 1)), sd_, sd_, H', ⟨by have := HK1.out; have := HJ12.out; omega⟩, ⟨(rR_ HO_5)⟩, ⟨(bb_ HB)⟩⟩
           ·
            rw [if_neg c47] at H
            exact absurd H (by simp)
          ·
           rw [if_neg c46] at H
           exact absurd H (by simp)
         ·
          rw [if_neg c45] at H
          exact absurd H (by simp)
      ·
       replace c15 := Bool.eq_false_iff.mpr c15
       subst c15
       have H1 : ((jK.f kj12 x5_1).bind fun t311 => (some t311)) = some r := by rw [if_neg (show ¬ (false = true) by decide)] at H; exact H
       clear H
       have H := H1
       clear H1
       replace H := Option.bind_eq_some_iff.mp H
       obtain ⟨t311, A520, H⟩ := H
       replace H : (some t311) = some r := H
       have A52 := jA.mk A520
       clear A520
       obtain rfl := Option.some.inj H
       obtain ⟨Ao53, co53, eo53⟩ := Kd.jf HO_5.out
       subst eo53
       go_wp2_with (first | ((with_reducible refine jH (f := 110) rfl ?_); refine jq (some 56) rfl rfl Try.func110 kr_ rfl #[.slice Ao53 x5_1.length co53] rfl mt_ ?_; (with_reducible refine (jK.calls kj12 (fun k_ => some k_ = (.slice Ao53 x5_1.length co53 : Value).ownBlock) _ _ x5_1 t311 _ ?side1 A52.out).mono ?_); (case side1 => exact Kd.R_V (Kd.jAS rfl (HO_5.out))); rintro e w54 ⟨v312, rfl, ho0, hb⟩; refine ⟨_, rfl, ?_⟩; have n0_ := jA.mk (Kd.jO (rR_ HO_5) hb); have n1_ := jA.mk (Kd.zM (Kd.vk (ok' := fun k_ => (P0_ k_ ∨ w.heap.size ≤ k_)) ho0 (fun k_ hk_ => Or.elim hk_ (fun hs_ => (.inr (((HO_5.out).1 k_ hs_.symm)))) (fun hn_ => (.inr (Nat.le_trans (jC (bb_ HB)) hn_))))) (jC (bb_ HB))); have n2_ := jA.mk (jE (bb_ HB) hb); clear HO_5 HB; have HO_5 := n0_; have HO313 := n1_; have HB := n2_; clear n0_ n1_ n2_))
       go_ret
       exact ⟨_, ew_, (rV_ HO313), (bb_ HB)⟩

end Go.Proofs.Ytijgeonhbmgikaa.PORatioSigns
