-- printed (pr.py)
import Derived.Test.YtijgeonhbmgikaaPOOctetPutsx0
import Derived.Test.YtijgeonhbmgikaaPOOctetPutsx2
import Derived.Test.YtijgeonhbmgikaaPOOctetPutsx3
import Derived.Test.YtijgeonhbmgikaaPOOctetPutsx11
namespace Go.Proofs.Ytijgeonhbmgikaa.POOctetPuts
open Go.RowKit Go.Proofs.YtijgeonhbmgikaaN Go.Proofs.YtijgeonhbmgikaaW.PrintWords Go.Proofs.YtijgeonhbmgikaaW.PrintLast Go.Proofs.YtijgeonhbmgikaaW.PrintMore
attribute [local go_sem] qE qC qP qO ze za qD qA
set_option maxHeartbeats 8000000
set_option maxRecDepth 100000
set_option linter.unusedVariables false
set_option linter.unusedSimpArgs false

/-! ### zu: function 27 -/
def zu.f (k : Nat) (a0_0 : Bool) (l0_1 : List Int) (l0_2 : List Int) : Option (Bool) := (vE.f k l0_1 l0_2).bind fun bt289 => (if bt289.2 = 0 then (if (l0_2.length : Int) > 0 then ((qw.f k bt289.1 (([1] : List Int))).bind fun t296 => (if t296 = 0 then (if a0_0 = true then ((qc.f a0_0 l0_1 l0_2).bind fun t297 => (some (!t297))) else (some true)) else (some false))) else (some false)) else (some false))
theorem zu.mono : ∀ a0 a1 a2 k, LeO (zu.f k a0 a1 a2) (zu.f (k + 1) a0 a1 a2) := by
 intro a0 a1 a2 k
 unfold zu.f
 repeat' first
   | (with_reducible exact qw.mono _ _ _)
   | (with_reducible exact vE.mono _ _ _)
   | (with_reducible exact LeO.refl _)
   | (with_reducible exact LeO.none _)
   | (with_reducible refine LeO.ite ?_ ?_)
   | (with_reducible refine LeO.bind ?_ (fun _ => ?_))
theorem zu.calls (k : Nat) (a0_0 : Bool) (A0_1 : Option Addr) (c0_1 : Nat) (l0_1 : List Int) (A0_2 : Option Addr) (c0_2 : Nat) (l0_2 : List Int) (r : Bool) (w : World) (hr0_1 : Kd.C (Kd.int .u64) w A0_1 l0_1.length l0_1) (hc0_1 : l0_1.length ≤ c0_1) (hr0_2 : Kd.C (Kd.int .u64) w A0_2 l0_2.length l0_2) (hc0_2 : l0_2.length ≤ c0_2) (h : zu.f k a0_0 l0_1 l0_2 = some r) :
  Calls Try.prog 27 #[.agg #[.bool a0_0, .slice A0_1 l0_1.length c0_1, .slice A0_2 l0_2.length c0_2]] w fun e w' => e = .returned (.bool r) ∧ Below w.heap.size w w' := by
 have hu44 := Try.underlying44
 have HR0_1 := jA.mk hr0_1
 have HC0_1 := jA.mk hc0_1
 clear hr0_1 hc0_1
 have HR0_2 := jA.mk hr0_2
 have HC0_2 := jA.mk hc0_2
 clear hr0_2 hc0_2
 have HB := jA.mk (Below.refl w.heap.size w)
 have H : ((vE.f k l0_1 l0_2).bind fun bt289 => (if bt289.2 = 0 then (if (l0_2.length : Int) > 0 then ((qw.f k bt289.1 (([1] : List Int))).bind fun t296 => (if t296 = 0 then (if a0_0 = true then ((qc.f a0_0 l0_1 l0_2).bind fun t297 => (some (!t297))) else (some true)) else (some false))) else (some false)) else (some false))) = some r := h
 clear h
 replace H := ob_ H
 obtain ⟨⟨t289, t290⟩, A20, H⟩ := H
 try dsimp only at H
 have A2 := jA.mk A20
 clear A20
 by_cases c3 : t290 = 0
 ·
  rw [if_pos c3] at H
  have c3b0 := beq_iff_eq.mpr c3
  have c3b1 := bne_eq_false_iff_eq.mpr c3
  clear c3
  by_cases c4 : (l0_2.length : Int) > 0
  ·
   rw [if_pos c4] at H
   have c4b0 := decide_eq_true c4
   have c4b1 : decide (0 < l0_2.length) = true := decide_eq_true (by omega)
   clear c4
   obtain ⟨y293, hy293⟩ : ∃ y_ : List Int, y_ = (([1] : List Int)) := ⟨_, rfl⟩
   replace H : ((qw.f k t289 y293).bind fun t296 => (if t296 = 0 then (if a0_0 = true then ((qc.f a0_0 l0_1 l0_2).bind fun t297 => (some (!t297))) else (some true)) else (some false))) = some r := by first | (rw [hy293]; with_reducible exact H) | (have H2_ := (Option.bind_some _ _).symm.trans H; rw [hy293]; with_reducible exact H2_) | (with_reducible exact hs_ H) | with_reducible exact H | (rw [hy293]; exact H) | exact H
   have Ny293 := jA.mk hy293
   clear hy293
   replace H := ob_ H
   obtain ⟨t296, A50, H⟩ := H
   try dsimp only at H
   have A5 := jA.mk A50
   clear A50
   by_cases c6 : t296 = 0
   ·
    rw [if_pos c6] at H
    have c6b0 := beq_iff_eq.mpr c6
    have c6b1 := bne_eq_false_iff_eq.mpr c6
    clear c6
    by_cases c7 : a0_0 = true
    ·
     subst c7
     have H1 : ((qc.f true l0_1 l0_2).bind fun t297 => (some (!t297))) = some r := by rw [if_pos rfl] at H; exact H
     clear H
     have H := H1
     clear H1
     replace H := ob_ H
     obtain ⟨t297, A80, H⟩ := H
     try dsimp only at H
     have A8 := jA.mk A80
     clear A80
     obtain rfl := Option.some.inj H
     go_enter Try.func27, Try.ntmps27
     go_wp2_with (first | ((with_reducible refine jq (N := 1) rfl ?_); (try (refine jv (by rfl) ?_; dsimp only)); refine zf ?hg (N := 1) ?hd (cs := #[.bool true, .slice A0_1 l0_1.length c0_1, .slice A0_2 l0_2.length c0_2]) (t := 44) ?hr ?_; (case hd => rfl); (case hg => rfl); (case hr => exact gs_); intro gb288 hg w9 hbox hb; have BK288 := jA.mk (hbox); have GW288 := jA.mk ((by rw [hg]; exact (jB (bb_ HB)) : w.heap.size ≤ gb288)); have GE288 := jA.mk ((by rw [hg]; exact (jB (bb_ HB)) : w.heap.size ≤ gb288)); replace HB := bs_ HB hb; clear hb hbox hg; obtain ⟨hcz10_0, hcz10_1, hcz10_2, hfz10_0, hfz10_1, hfz10_2⟩ := bf3_ BK288) | ((with_reducible refine jF (f := 71) rfl ?_); refine jg (some 10) rfl rfl Try.func71 kr_ rfl #[.slice A0_1 l0_1.length c0_1, .slice A0_2 l0_2.length c0_2] rfl mt_ ?_; (with_reducible refine (vE.calls k _ _ l0_1 _ _ l0_2 t289 t290 _ ?side1 ?side2 ?side3 ?side4 A2.out).mono ?_); (case side1 => exact cc_ (Kd.jW HR0_1.out HB.out)); (case side2 => exact HC0_1.out); (case side3 => exact cc_ (Kd.jW HR0_2.out HB.out)); (case side4 => exact HC0_2.out); rintro e w11 ⟨v291, rfl, ho0, hb⟩; refine ⟨_, rfl, ?_⟩; have HO292 := jA.mk (Kd.jZ ho0 (jB (bb1_ HB GE288))); replace BK288 := bk_ BK288 hb; replace HB := jA.mk (jf (bb1_ HB GE288) hb); obtain ⟨hcz12_0, hcz12_1, hcz12_2, hfz12_0, hfz12_1, hfz12_2⟩ := bf3_ BK288) | ((with_reducible refine jq (N := 23) rfl ?_); (try (refine jv (by rfl) ?_; dsimp only)); refine Kd.jAC (Kd.int .u64) _ 22 ?hg (N := 23) ?hd (xs := ([1] : List Int)) (inner := [.int .u64 1]) (ok := fun _ => True) (okp := fun _ => True) ?hr ?hp (fun _ hk => hk) trivial (Below.refl _ _) (Nat.le_refl _) (by simp) ?_; (case hd => rfl); (case hg => rfl); (case hr => exact gs_); (case hp => exact (Reps.one (show Kd.M (Kd.int .u64) _ _ _ 1 [.int .u64 1] from rfl) (Reps.none _ _))); intro v294 w13 ho14 hb hg_ hnew_; clear hg_ hnew_; (first | rw [← Ny293.out] at ho14 | (simp only [Int.reduceToNat] at ho14; rw [← Ny293.out] at ho14)); have HO295 := jA.mk (Kd.jZ (Kd.jS ho14 (Kd.R_lt (rR_ HO292))) (jB (bb1_ HB GE288))); replace HO292 := re_ HO292 ho14 hb; replace BK288 := bk_ BK288 hb; replace HB := jA.mk (jf (bb1_ HB GE288) hb); clear hb ho14; obtain ⟨Ao15, co15, eo15⟩ := Kd.jr HO292.out; subst eo15; obtain ⟨Ao16, co16, eo16⟩ := Kd.jr HO295.out; subst eo16) | ((with_reducible refine jq (N := 24) rfl ?_); (try (refine jv (by rfl) ?_; dsimp only)); refine jv (by first | rfl | kernel_rfl) ?_; dsimp only; (with_reducible refine jF (f := 73) rfl ?_); refine jg (some 24) rfl rfl Try.func73 kr_ rfl #[.slice Ao15 t289.length co15, .slice Ao16 y293.length co16] rfl mt_ ?_; (with_reducible refine (qw.calls k _ _ t289 _ _ y293 t296 _ ?side1 ?side2 ?side3 ?side4 A5.out).mono ?_); (case side1 => exact cc_ (Kd.jH HO292.out).2.2); (case side2 => exact (Kd.jH HO292.out).2.1); (case side3 => exact cc_ (Kd.jH HO295.out).2.2); (case side4 => exact (Kd.jH HO295.out).2.1); rintro e w17 ⟨rfl, hb⟩; refine ⟨_, rfl, ?_⟩; replace HO292 := ro_ HO292 hb; replace HO295 := ro_ HO295 hb; replace BK288 := bk_ BK288 hb; replace HB := jA.mk (jf (bb1_ HB GE288) hb); obtain ⟨hcz18_0, hcz18_1, hcz18_2, hfz18_0, hfz18_1, hfz18_2⟩ := bf3_ BK288) | (go_at_call 54; (with_reducible refine (qc.calls true _ _ l0_1 _ _ l0_2 t297 _ ?side1 ?side2 ?side3 ?side4 A8.out).mono ?_); (case side1 => exact cc_ (Kd.jW HR0_1.out HB.out)); (case side2 => exact HC0_1.out); (case side3 => exact cc_ (Kd.jW HR0_2.out HB.out)); (case side4 => exact HC0_2.out); rintro e w19 ⟨rfl, hb⟩; replace HO292 := ro_ HO292 hb; replace HO295 := ro_ HO295 hb; replace BK288 := bk_ BK288 hb; replace HB := jA.mk (jf (bb1_ HB GE288) hb)))
     go_ret
     exact ⟨ew_, (bb1_ HB GE288)⟩
    ·
     replace c7 := Bool.eq_false_iff.mpr c7
     subst c7
     have H1 : (some true) = some r := by rw [if_neg (show ¬ (false = true) by decide)] at H; exact H
     clear H
     have H := H1
     clear H1
     obtain rfl := Option.some.inj H
     go_enter Try.func27, Try.ntmps27
     go_wp2_with (first | ((with_reducible refine jq (N := 1) rfl ?_); (try (refine jv (by rfl) ?_; dsimp only)); refine zf ?hg (N := 1) ?hd (cs := #[.bool false, .slice A0_1 l0_1.length c0_1, .slice A0_2 l0_2.length c0_2]) (t := 44) ?hr ?_; (case hd => rfl); (case hg => rfl); (case hr => exact gs_); intro gb288 hg w20 hbox hb; have BK288 := jA.mk (hbox); have GW288 := jA.mk ((by rw [hg]; exact (jB (bb_ HB)) : w.heap.size ≤ gb288)); have GE288 := jA.mk ((by rw [hg]; exact (jB (bb_ HB)) : w.heap.size ≤ gb288)); replace HB := bs_ HB hb; clear hb hbox hg; obtain ⟨hcz21_0, hcz21_1, hcz21_2, hfz21_0, hfz21_1, hfz21_2⟩ := bf3_ BK288) | ((with_reducible refine jF (f := 71) rfl ?_); refine jg (some 10) rfl rfl Try.func71 kr_ rfl #[.slice A0_1 l0_1.length c0_1, .slice A0_2 l0_2.length c0_2] rfl mt_ ?_; (with_reducible refine (vE.calls k _ _ l0_1 _ _ l0_2 t289 t290 _ ?side1 ?side2 ?side3 ?side4 A2.out).mono ?_); (case side1 => exact cc_ (Kd.jW HR0_1.out HB.out)); (case side2 => exact HC0_1.out); (case side3 => exact cc_ (Kd.jW HR0_2.out HB.out)); (case side4 => exact HC0_2.out); rintro e w22 ⟨v291, rfl, ho0, hb⟩; refine ⟨_, rfl, ?_⟩; have HO292 := jA.mk (Kd.jZ ho0 (jB (bb1_ HB GE288))); replace BK288 := bk_ BK288 hb; replace HB := jA.mk (jf (bb1_ HB GE288) hb); obtain ⟨hcz23_0, hcz23_1, hcz23_2, hfz23_0, hfz23_1, hfz23_2⟩ := bf3_ BK288) | ((with_reducible refine jq (N := 23) rfl ?_); (try (refine jv (by rfl) ?_; dsimp only)); refine Kd.jAC (Kd.int .u64) _ 22 ?hg (N := 23) ?hd (xs := ([1] : List Int)) (inner := [.int .u64 1]) (ok := fun _ => True) (okp := fun _ => True) ?hr ?hp (fun _ hk => hk) trivial (Below.refl _ _) (Nat.le_refl _) (by simp) ?_; (case hd => rfl); (case hg => rfl); (case hr => exact gs_); (case hp => exact (Reps.one (show Kd.M (Kd.int .u64) _ _ _ 1 [.int .u64 1] from rfl) (Reps.none _ _))); intro v294 w24 ho25 hb hg_ hnew_; clear hg_ hnew_; (first | rw [← Ny293.out] at ho25 | (simp only [Int.reduceToNat] at ho25; rw [← Ny293.out] at ho25)); have HO295 := jA.mk (Kd.jZ (Kd.jS ho25 (Kd.R_lt (rR_ HO292))) (jB (bb1_ HB GE288))); replace HO292 := re_ HO292 ho25 hb; replace BK288 := bk_ BK288 hb; replace HB := jA.mk (jf (bb1_ HB GE288) hb); clear hb ho25; obtain ⟨Ao26, co26, eo26⟩ := Kd.jr HO292.out; subst eo26; obtain ⟨Ao27, co27, eo27⟩ := Kd.jr HO295.out; subst eo27) | ((with_reducible refine jq (N := 24) rfl ?_); (try (refine jv (by rfl) ?_; dsimp only)); refine jv (by first | rfl | kernel_rfl) ?_; dsimp only; (with_reducible refine jF (f := 73) rfl ?_); refine jg (some 24) rfl rfl Try.func73 kr_ rfl #[.slice Ao26 t289.length co26, .slice Ao27 y293.length co27] rfl mt_ ?_; (with_reducible refine (qw.calls k _ _ t289 _ _ y293 t296 _ ?side1 ?side2 ?side3 ?side4 A5.out).mono ?_); (case side1 => exact cc_ (Kd.jH HO292.out).2.2); (case side2 => exact (Kd.jH HO292.out).2.1); (case side3 => exact cc_ (Kd.jH HO295.out).2.2); (case side4 => exact (Kd.jH HO295.out).2.1); rintro e w28 ⟨rfl, hb⟩; refine ⟨_, rfl, ?_⟩; replace HO292 := ro_ HO292 hb; replace HO295 := ro_ HO295 hb; replace BK288 := bk_ BK288 hb; replace HB := jA.mk (jf (bb1_ HB GE288) hb); obtain ⟨hcz29_0, hcz29_1, hcz29_2, hfz29_0, hfz29_1, hfz29_2⟩ := bf3_ BK288))
     go_ret
     exact ⟨ew_, (bb1_ HB GE288)⟩
   ·
    rw [if_neg c6] at H
    have c6b0 := beq_eq_false_iff_ne.mpr c6
    have c6b1 := bne_iff_ne.mpr c6
    obtain rfl := Option.some.inj H
    go_enter Try.func27, Try.ntmps27
    go_wp2_with (first | ((with_reducible refine jq (N := 1) rfl ?_); (try (refine jv (by rfl) ?_; dsimp only)); refine zf ?hg (N := 1) ?hd (cs := #[.bool a0_0, .slice A0_1 l0_1.length c0_1, .slice A0_2 l0_2.length c0_2]) (t := 44) ?hr ?_; (case hd => rfl); (case hg => rfl); (case hr => exact gs_); intro gb288 hg w30 hbox hb; have BK288 := jA.mk (hbox); have GW288 := jA.mk ((by rw [hg]; exact (jB (bb_ HB)) : w.heap.size ≤ gb288)); have GE288 := jA.mk ((by rw [hg]; exact (jB (bb_ HB)) : w.heap.size ≤ gb288)); replace HB := bs_ HB hb; clear hb hbox hg; obtain ⟨hcz31_0, hcz31_1, hcz31_2, hfz31_0, hfz31_1, hfz31_2⟩ := bf3_ BK288) | ((with_reducible refine jF (f := 71) rfl ?_); refine jg (some 10) rfl rfl Try.func71 kr_ rfl #[.slice A0_1 l0_1.length c0_1, .slice A0_2 l0_2.length c0_2] rfl mt_ ?_; (with_reducible refine (vE.calls k _ _ l0_1 _ _ l0_2 t289 t290 _ ?side1 ?side2 ?side3 ?side4 A2.out).mono ?_); (case side1 => exact cc_ (Kd.jW HR0_1.out HB.out)); (case side2 => exact HC0_1.out); (case side3 => exact cc_ (Kd.jW HR0_2.out HB.out)); (case side4 => exact HC0_2.out); rintro e w32 ⟨v291, rfl, ho0, hb⟩; refine ⟨_, rfl, ?_⟩; have HO292 := jA.mk (Kd.jZ ho0 (jB (bb1_ HB GE288))); replace BK288 := bk_ BK288 hb; replace HB := jA.mk (jf (bb1_ HB GE288) hb); obtain ⟨hcz33_0, hcz33_1, hcz33_2, hfz33_0, hfz33_1, hfz33_2⟩ := bf3_ BK288) | ((with_reducible refine jq (N := 23) rfl ?_); (try (refine jv (by rfl) ?_; dsimp only)); refine Kd.jAC (Kd.int .u64) _ 22 ?hg (N := 23) ?hd (xs := ([1] : List Int)) (inner := [.int .u64 1]) (ok := fun _ => True) (okp := fun _ => True) ?hr ?hp (fun _ hk => hk) trivial (Below.refl _ _) (Nat.le_refl _) (by simp) ?_; (case hd => rfl); (case hg => rfl); (case hr => exact gs_); (case hp => exact (Reps.one (show Kd.M (Kd.int .u64) _ _ _ 1 [.int .u64 1] from rfl) (Reps.none _ _))); intro v294 w34 ho35 hb hg_ hnew_; clear hg_ hnew_; (first | rw [← Ny293.out] at ho35 | (simp only [Int.reduceToNat] at ho35; rw [← Ny293.out] at ho35)); have HO295 := jA.mk (Kd.jZ (Kd.jS ho35 (Kd.R_lt (rR_ HO292))) (jB (bb1_ HB GE288))); replace HO292 := re_ HO292 ho35 hb; replace BK288 := bk_ BK288 hb; replace HB := jA.mk (jf (bb1_ HB GE288) hb); clear hb ho35; obtain ⟨Ao36, co36, eo36⟩ := Kd.jr HO292.out; subst eo36; obtain ⟨Ao37, co37, eo37⟩ := Kd.jr HO295.out; subst eo37) | ((with_reducible refine jq (N := 24) rfl ?_); (try (refine jv (by rfl) ?_; dsimp only)); refine jv (by first | rfl | kernel_rfl) ?_; dsimp only; (with_reducible refine jF (f := 73) rfl ?_); refine jg (some 24) rfl rfl Try.func73 kr_ rfl #[.slice Ao36 t289.length co36, .slice Ao37 y293.length co37] rfl mt_ ?_; (with_reducible refine (qw.calls k _ _ t289 _ _ y293 t296 _ ?side1 ?side2 ?side3 ?side4 A5.out).mono ?_); (case side1 => exact cc_ (Kd.jH HO292.out).2.2); (case side2 => exact (Kd.jH HO292.out).2.1); (case side3 => exact cc_ (Kd.jH HO295.out).2.2); (case side4 => exact (Kd.jH HO295.out).2.1); rintro e w38 ⟨rfl, hb⟩; refine ⟨_, rfl, ?_⟩; replace HO292 := ro_ HO292 hb; replace HO295 := ro_ HO295 hb; replace BK288 := bk_ BK288 hb; replace HB := jA.mk (jf (bb1_ HB GE288) hb)))
    go_ret
    exact ⟨ew_, (bb1_ HB GE288)⟩
  ·
   rw [if_neg c4] at H
   have c4b0 := decide_eq_false c4
   have c4b1 : decide (0 < l0_2.length) = false := decide_eq_false (by omega)
   clear c4
   obtain rfl := Option.some.inj H
   go_enter Try.func27, Try.ntmps27
   go_wp2_with (first | ((with_reducible refine jq (N := 1) rfl ?_); (try (refine jv (by rfl) ?_; dsimp only)); refine zf ?hg (N := 1) ?hd (cs := #[.bool a0_0, .slice A0_1 l0_1.length c0_1, .slice A0_2 l0_2.length c0_2]) (t := 44) ?hr ?_; (case hd => rfl); (case hg => rfl); (case hr => exact gs_); intro gb288 hg w39 hbox hb; have BK288 := jA.mk (hbox); have GW288 := jA.mk ((by rw [hg]; exact (jB (bb_ HB)) : w.heap.size ≤ gb288)); have GE288 := jA.mk ((by rw [hg]; exact (jB (bb_ HB)) : w.heap.size ≤ gb288)); replace HB := bs_ HB hb; clear hb hbox hg; obtain ⟨hcz40_0, hcz40_1, hcz40_2, hfz40_0, hfz40_1, hfz40_2⟩ := bf3_ BK288) | ((with_reducible refine jF (f := 71) rfl ?_); refine jg (some 10) rfl rfl Try.func71 kr_ rfl #[.slice A0_1 l0_1.length c0_1, .slice A0_2 l0_2.length c0_2] rfl mt_ ?_; (with_reducible refine (vE.calls k _ _ l0_1 _ _ l0_2 t289 t290 _ ?side1 ?side2 ?side3 ?side4 A2.out).mono ?_); (case side1 => exact cc_ (Kd.jW HR0_1.out HB.out)); (case side2 => exact HC0_1.out); (case side3 => exact cc_ (Kd.jW HR0_2.out HB.out)); (case side4 => exact HC0_2.out); rintro e w41 ⟨v291, rfl, ho0, hb⟩; refine ⟨_, rfl, ?_⟩; have HO292 := jA.mk (Kd.jZ ho0 (jB (bb1_ HB GE288))); replace BK288 := bk_ BK288 hb; replace HB := jA.mk (jf (bb1_ HB GE288) hb); obtain ⟨hcz42_0, hcz42_1, hcz42_2, hfz42_0, hfz42_1, hfz42_2⟩ := bf3_ BK288))
   go_ret
   exact ⟨ew_, (bb1_ HB GE288)⟩
 ·
  rw [if_neg c3] at H
  have c3b0 := beq_eq_false_iff_ne.mpr c3
  have c3b1 := bne_iff_ne.mpr c3
  obtain rfl := Option.some.inj H
  go_enter Try.func27, Try.ntmps27
  go_wp2_with (first | ((with_reducible refine jq (N := 1) rfl ?_); (try (refine jv (by rfl) ?_; dsimp only)); refine zf ?hg (N := 1) ?hd (cs := #[.bool a0_0, .slice A0_1 l0_1.length c0_1, .slice A0_2 l0_2.length c0_2]) (t := 44) ?hr ?_; (case hd => rfl); (case hg => rfl); (case hr => exact gs_); intro gb288 hg w43 hbox hb; have BK288 := jA.mk (hbox); have GW288 := jA.mk ((by rw [hg]; exact (jB (bb_ HB)) : w.heap.size ≤ gb288)); have GE288 := jA.mk ((by rw [hg]; exact (jB (bb_ HB)) : w.heap.size ≤ gb288)); replace HB := bs_ HB hb; clear hb hbox hg; obtain ⟨hcz44_0, hcz44_1, hcz44_2, hfz44_0, hfz44_1, hfz44_2⟩ := bf3_ BK288) | ((with_reducible refine jF (f := 71) rfl ?_); refine jg (some 10) rfl rfl Try.func71 kr_ rfl #[.slice A0_1 l0_1.length c0_1, .slice A0_2 l0_2.length c0_2] rfl mt_ ?_; (with_reducible refine (vE.calls k _ _ l0_1 _ _ l0_2 t289 t290 _ ?side1 ?side2 ?side3 ?side4 A2.out).mono ?_); (case side1 => exact cc_ (Kd.jW HR0_1.out HB.out)); (case side2 => exact HC0_1.out); (case side3 => exact cc_ (Kd.jW HR0_2.out HB.out)); (case side4 => exact HC0_2.out); rintro e w45 ⟨v291, rfl, ho0, hb⟩; refine ⟨_, rfl, ?_⟩; have HO292 := jA.mk (Kd.jZ ho0 (jB (bb1_ HB GE288))); replace BK288 := bk_ BK288 hb; replace HB := jA.mk (jf (bb1_ HB GE288) hb)))
  go_ret
  exact ⟨ew_, (bb1_ HB GE288)⟩

/-! ### zI: function 31 -/
def zI.f (k : Nat) (a0_0 : Bool) (l0_1 : List Int) (l0_2 : List Int) : Option (ByteArray × Int) := (zu.f k a0_0 l0_1 l0_2).bind fun t299 => (if t299 = true then (if a0_0 = true then ((jm.f k l0_1).bind fun bt300 => ((jm.f k l0_2).bind fun bt302 => ((some (([1] : List Int) : List Int)).bind fun y304 => (if (strOfNums y304).size + bt300.1.size ≤ 9223372036854775807 then (if ((strOfNums y304) ++ bt300.1).size + bt302.1.size ≤ 9223372036854775807 then (some (((strOfNums y304) ++ bt300.1) ++ bt302.1, 0)) else (none)) else (none))))) else ((jm.f k l0_1).bind fun bt307 => ((jm.f k l0_2).bind fun bt309 => ((some (([0] : List Int) : List Int)).bind fun y311 => (if (strOfNums y311).size + bt307.1.size ≤ 9223372036854775807 then (if ((strOfNums y311) ++ bt307.1).size + bt309.1.size ≤ 9223372036854775807 then (some (((strOfNums y311) ++ bt307.1) ++ bt309.1, 0)) else (none)) else (none)))))) else (some ((⟨#[]⟩ : ByteArray), 1)))
theorem zI.mono : ∀ a0 a1 a2 k, LeO (zI.f k a0 a1 a2) (zI.f (k + 1) a0 a1 a2) := by
 intro a0 a1 a2 k
 unfold zI.f
 repeat' first
   | (with_reducible exact jm.mono _ _)
   | (with_reducible exact zu.mono _ _ _ _)
   | (with_reducible exact LeO.refl _)
   | (with_reducible exact LeO.none _)
   | (with_reducible refine LeO.ite ?_ ?_)
   | (with_reducible refine LeO.bind ?_ (fun _ => ?_))
theorem zI.calls (k : Nat) (a0_0 : Bool) (A0_1 : Option Addr) (c0_1 : Nat) (l0_1 : List Int) (A0_2 : Option Addr) (c0_2 : Nat) (l0_2 : List Int) (r1 : ByteArray) (r2 : Int) (w : World) (hr0_1 : Kd.C (Kd.int .u64) w A0_1 l0_1.length l0_1) (hc0_1 : l0_1.length ≤ c0_1) (hr0_2 : Kd.C (Kd.int .u64) w A0_2 l0_2.length l0_2) (hc0_2 : l0_2.length ≤ c0_2) (h : zI.f k a0_0 l0_1 l0_2 = some (r1, r2)) :
  Calls Try.prog 31 #[.agg #[.bool a0_0, .slice A0_1 l0_1.length c0_1, .slice A0_2 l0_2.length c0_2]] w fun e w' => e = .returned (.tuple #[.string r1, .int .i64 r2]) ∧ Below w.heap.size w w' := by
 have hu44 := Try.underlying44
 have HR0_1 := jA.mk hr0_1
 have HC0_1 := jA.mk hc0_1
 clear hr0_1 hc0_1
 have HR0_2 := jA.mk hr0_2
 have HC0_2 := jA.mk hc0_2
 clear hr0_2 hc0_2
 have HB := jA.mk (Below.refl w.heap.size w)
 have H : ((zu.f k a0_0 l0_1 l0_2).bind fun t299 => (if t299 = true then (if a0_0 = true then ((jm.f k l0_1).bind fun bt300 => ((jm.f k l0_2).bind fun bt302 => ((some (([1] : List Int) : List Int)).bind fun y304 => (if (strOfNums y304).size + bt300.1.size ≤ 9223372036854775807 then (if ((strOfNums y304) ++ bt300.1).size + bt302.1.size ≤ 9223372036854775807 then (some (((strOfNums y304) ++ bt300.1) ++ bt302.1, 0)) else (none)) else (none))))) else ((jm.f k l0_1).bind fun bt307 => ((jm.f k l0_2).bind fun bt309 => ((some (([0] : List Int) : List Int)).bind fun y311 => (if (strOfNums y311).size + bt307.1.size ≤ 9223372036854775807 then (if ((strOfNums y311) ++ bt307.1).size + bt309.1.size ≤ 9223372036854775807 then (some (((strOfNums y311) ++ bt307.1) ++ bt309.1, 0)) else (none)) else (none)))))) else (some ((⟨#[]⟩ : ByteArray), 1)))) = some (r1, r2) := h
 clear h
 replace H := ob_ H
 obtain ⟨t299, A20, H⟩ := H
 try dsimp only at H
 have A2 := jA.mk A20
 clear A20
 by_cases c3 : t299 = true
 ·
  subst c3
  have H1 : (if a0_0 = true then ((jm.f k l0_1).bind fun bt300 => ((jm.f k l0_2).bind fun bt302 => ((some (([1] : List Int) : List Int)).bind fun y304 => (if (strOfNums y304).size + bt300.1.size ≤ 9223372036854775807 then (if ((strOfNums y304) ++ bt300.1).size + bt302.1.size ≤ 9223372036854775807 then (some (((strOfNums y304) ++ bt300.1) ++ bt302.1, 0)) else (none)) else (none))))) else ((jm.f k l0_1).bind fun bt307 => ((jm.f k l0_2).bind fun bt309 => ((some (([0] : List Int) : List Int)).bind fun y311 => (if (strOfNums y311).size + bt307.1.size ≤ 9223372036854775807 then (if ((strOfNums y311) ++ bt307.1).size + bt309.1.size ≤ 9223372036854775807 then (some (((strOfNums y311) ++ bt307.1) ++ bt309.1, 0)) else (none)) else (none)))))) = some (r1, r2) := by rw [if_pos rfl] at H; exact H
  clear H
  have H := H1
  clear H1
  by_cases c4 : a0_0 = true
  ·
   subst c4
   have H1 : ((jm.f k l0_1).bind fun bt300 => ((jm.f k l0_2).bind fun bt302 => ((some (([1] : List Int) : List Int)).bind fun y304 => (if (strOfNums y304).size + bt300.1.size ≤ 9223372036854775807 then (if ((strOfNums y304) ++ bt300.1).size + bt302.1.size ≤ 9223372036854775807 then (some (((strOfNums y304) ++ bt300.1) ++ bt302.1, 0)) else (none)) else (none))))) = some (r1, r2) := by rw [if_pos rfl] at H; exact H
   clear H
   have H := H1
   clear H1
   replace H := ob_ H
   obtain ⟨⟨t300, t301⟩, A50, H⟩ := H
   try dsimp only at H
   have A5 := jA.mk A50
   clear A50
   replace H := ob_ H
   obtain ⟨⟨t302, t303⟩, A60, H⟩ := H
   try dsimp only at H
   have A6 := jA.mk A60
   clear A60
   obtain ⟨y304, hy304⟩ : ∃ y_ : List Int, y_ = (([1] : List Int)) := ⟨_, rfl⟩
   replace H : (if (strOfNums y304).size + t300.size ≤ 9223372036854775807 then (if ((strOfNums y304) ++ t300).size + t302.size ≤ 9223372036854775807 then (some (((strOfNums y304) ++ t300) ++ t302, 0)) else (none)) else (none)) = some (r1, r2) := by first | (rw [hy304]; with_reducible exact H) | (have H2_ := (Option.bind_some _ _).symm.trans H; rw [hy304]; with_reducible exact H2_) | (with_reducible exact hs_ H) | with_reducible exact H | (rw [hy304]; exact H) | exact H
   have Ny304 := jA.mk hy304
   clear hy304
   by_cases c7 : (strOfNums y304).size + t300.size ≤ 9223372036854775807
   ·
    rw [if_pos c7] at H
    have c7b0 := eq_true c7
    have c7b1 := decide_eq_true c7
    try have c7b2 : (9223372036854775807 < (strOfNums y304).size + t300.size) = False := eq_false (Nat.not_lt.2 c7)
    by_cases c8 : ((strOfNums y304) ++ t300).size + t302.size ≤ 9223372036854775807
    ·
     rw [if_pos c8] at H
     have c8b0 := eq_true c8
     have c8b1 := decide_eq_true c8
     try have c8b2 : (9223372036854775807 < ((strOfNums y304) ++ t300).size + t302.size) = False := eq_false (Nat.not_lt.2 c8)
     simp only [Option.some.injEq, Prod.mk.injEq] at H
     obtain ⟨rfl, rfl⟩ := H
     go_enter Try.func31, Try.ntmps31
     go_wp2_with (first | ((with_reducible refine jq (N := 1) rfl ?_); refine zf ?hg (N := 1) ?hd (cs := #[.bool true, .slice A0_1 l0_1.length c0_1, .slice A0_2 l0_2.length c0_2]) (t := 44) ?hr ?_; (case hd => rfl); (case hg => rfl); (case hr => exact gs_); intro gb298 hg w9 hbox hb; have BK298 := jA.mk (hbox); have GW298 := jA.mk ((by rw [hg]; exact (jB (bb_ HB)) : w.heap.size ≤ gb298)); have GE298 := jA.mk ((by rw [hg]; exact (jB (bb_ HB)) : w.heap.size ≤ gb298)); replace HB := bs_ HB hb; clear hb hbox hg; obtain ⟨hcz10_0, hcz10_1, hcz10_2, hfz10_0, hfz10_1, hfz10_2⟩ := bf3_ BK298) | ((with_reducible refine jF (f := 27) rfl ?_); refine jg (some 10) rfl rfl Try.func27 kr_ rfl #[.agg #[.bool true, .slice A0_1 l0_1.length c0_1, .slice A0_2 l0_2.length c0_2]] rfl mt_ ?_; (with_reducible refine (zu.calls k true _ _ l0_1 _ _ l0_2 true _ ?side1 ?side2 ?side3 ?side4 A2.out).mono ?_); (case side1 => exact cc_ (Kd.jW HR0_1.out HB.out)); (case side2 => exact HC0_1.out); (case side3 => exact cc_ (Kd.jW HR0_2.out HB.out)); (case side4 => exact HC0_2.out); rintro e w11 ⟨rfl, hb⟩; refine ⟨_, rfl, ?_⟩; replace BK298 := bk_ BK298 hb; replace HB := jA.mk (jf (bb1_ HB GE298) hb); obtain ⟨hcz12_0, hcz12_1, hcz12_2, hfz12_0, hfz12_1, hfz12_2⟩ := bf3_ BK298) | ((with_reducible refine jF (f := 20) rfl ?_); refine jg (some 17) rfl rfl Try.func20 kr_ rfl #[.slice A0_1 l0_1.length c0_1] rfl mt_ ?_; (with_reducible refine (jm.calls k _ _ l0_1 t300 t301 _ ?side1 ?side2 A5.out).mono ?_); (case side1 => exact cc_ (Kd.jW HR0_1.out HB.out)); (case side2 => exact HC0_1.out); rintro e w13 ⟨rfl, hb⟩; refine ⟨_, rfl, ?_⟩; replace BK298 := bk_ BK298 hb; replace HB := jA.mk (jf (bb1_ HB GE298) hb); obtain ⟨hcz14_0, hcz14_1, hcz14_2, hfz14_0, hfz14_1, hfz14_2⟩ := bf3_ BK298) | ((with_reducible refine jF (f := 20) rfl ?_); refine jg (some 23) rfl rfl Try.func20 kr_ rfl #[.slice A0_2 l0_2.length c0_2] rfl mt_ ?_; (with_reducible refine (jm.calls k _ _ l0_2 t302 t303 _ ?side1 ?side2 A6.out).mono ?_); (case side1 => exact cc_ (Kd.jW HR0_2.out HB.out)); (case side2 => exact HC0_2.out); rintro e w15 ⟨rfl, hb⟩; refine ⟨_, rfl, ?_⟩; replace BK298 := bk_ BK298 hb; replace HB := jA.mk (jf (bb1_ HB GE298) hb)) | ((with_reducible refine jq (N := 27) rfl ?_); refine Kd.jAC (Kd.int .u8) _ 5 ?hg (N := 27) ?hd (xs := ([1] : List Int)) (inner := [.int .u8 1]) (ok := fun _ => True) (okp := fun _ => True) ?hr ?hp (fun _ hk => hk) trivial (Below.refl _ _) (Nat.le_refl _) (by simp) ?_; (case hd => rfl); (case hg => rfl); (case hr => exact gs_); (case hp => exact (Reps.one (show Kd.M (Kd.int .u8) _ _ _ 1 [.int .u8 1] from rfl) (Reps.none _ _))); intro v305 w16 ho17 hb hg_ hnew_; clear hg_ hnew_; (first | rw [← Ny304.out] at ho17 | (simp only [Int.reduceToNat] at ho17; rw [← Ny304.out] at ho17)); have HO306 := jA.mk (Kd.jZ ho17 (jB (bb1_ HB GE298))); replace BK298 := bk_ BK298 hb; replace HB := jA.mk (jf (bb1_ HB GE298) hb); clear hb ho17; have hcv18 := qN (P := Try.prog) Try.underlying60 Try.underlying5 Try.underlying9 (Kd.qd HO306.out)))
     go_ret2
     exact ⟨ew_, (bb1_ HB GE298)⟩
    ·
     rw [if_neg c8] at H
     exact absurd H (by simp)
   ·
    rw [if_neg c7] at H
    exact absurd H (by simp)
  ·
   replace c4 := Bool.eq_false_iff.mpr c4
   subst c4
   have H1 : ((jm.f k l0_1).bind fun bt307 => ((jm.f k l0_2).bind fun bt309 => ((some (([0] : List Int) : List Int)).bind fun y311 => (if (strOfNums y311).size + bt307.1.size ≤ 9223372036854775807 then (if ((strOfNums y311) ++ bt307.1).size + bt309.1.size ≤ 9223372036854775807 then (some (((strOfNums y311) ++ bt307.1) ++ bt309.1, 0)) else (none)) else (none))))) = some (r1, r2) := by rw [if_neg (show ¬ (false = true) by decide)] at H; exact H
   clear H
   have H := H1
   clear H1
   replace H := ob_ H
   obtain ⟨⟨t307, t308⟩, A190, H⟩ := H
   try dsimp only at H
   have A19 := jA.mk A190
   clear A190
   replace H := ob_ H
   obtain ⟨⟨t309, t310⟩, A200, H⟩ := H
   try dsimp only at H
   have A20 := jA.mk A200
   clear A200
   obtain ⟨y311, hy311⟩ : ∃ y_ : List Int, y_ = (([0] : List Int)) := ⟨_, rfl⟩
   replace H : (if (strOfNums y311).size + t307.size ≤ 9223372036854775807 then (if ((strOfNums y311) ++ t307).size + t309.size ≤ 9223372036854775807 then (some (((strOfNums y311) ++ t307) ++ t309, 0)) else (none)) else (none)) = some (r1, r2) := by first | (rw [hy311]; with_reducible exact H) | (have H2_ := (Option.bind_some _ _).symm.trans H; rw [hy311]; with_reducible exact H2_) | (with_reducible exact hs_ H) | with_reducible exact H | (rw [hy311]; exact H) | exact H
   have Ny311 := jA.mk hy311
   clear hy311
   by_cases c21 : (strOfNums y311).size + t307.size ≤ 9223372036854775807
   ·
    rw [if_pos c21] at H
    have c21b0 := eq_true c21
    have c21b1 := decide_eq_true c21
    try have c21b2 : (9223372036854775807 < (strOfNums y311).size + t307.size) = False := eq_false (Nat.not_lt.2 c21)
    by_cases c22 : ((strOfNums y311) ++ t307).size + t309.size ≤ 9223372036854775807
    ·
     rw [if_pos c22] at H
     have c22b0 := eq_true c22
     have c22b1 := decide_eq_true c22
     try have c22b2 : (9223372036854775807 < ((strOfNums y311) ++ t307).size + t309.size) = False := eq_false (Nat.not_lt.2 c22)
     simp only [Option.some.injEq, Prod.mk.injEq] at H
     obtain ⟨rfl, rfl⟩ := H
     go_enter Try.func31, Try.ntmps31
     go_wp2_with (first | ((with_reducible refine jq (N := 1) rfl ?_); refine zf ?hg (N := 1) ?hd (cs := #[.bool false, .slice A0_1 l0_1.length c0_1, .slice A0_2 l0_2.length c0_2]) (t := 44) ?hr ?_; (case hd => rfl); (case hg => rfl); (case hr => exact gs_); intro gb298 hg w23 hbox hb; have BK298 := jA.mk (hbox); have GW298 := jA.mk ((by rw [hg]; exact (jB (bb_ HB)) : w.heap.size ≤ gb298)); have GE298 := jA.mk ((by rw [hg]; exact (jB (bb_ HB)) : w.heap.size ≤ gb298)); replace HB := bs_ HB hb; clear hb hbox hg; obtain ⟨hcz24_0, hcz24_1, hcz24_2, hfz24_0, hfz24_1, hfz24_2⟩ := bf3_ BK298) | ((with_reducible refine jF (f := 27) rfl ?_); refine jg (some 10) rfl rfl Try.func27 kr_ rfl #[.agg #[.bool false, .slice A0_1 l0_1.length c0_1, .slice A0_2 l0_2.length c0_2]] rfl mt_ ?_; (with_reducible refine (zu.calls k false _ _ l0_1 _ _ l0_2 true _ ?side1 ?side2 ?side3 ?side4 A2.out).mono ?_); (case side1 => exact cc_ (Kd.jW HR0_1.out HB.out)); (case side2 => exact HC0_1.out); (case side3 => exact cc_ (Kd.jW HR0_2.out HB.out)); (case side4 => exact HC0_2.out); rintro e w25 ⟨rfl, hb⟩; refine ⟨_, rfl, ?_⟩; replace BK298 := bk_ BK298 hb; replace HB := jA.mk (jf (bb1_ HB GE298) hb); obtain ⟨hcz26_0, hcz26_1, hcz26_2, hfz26_0, hfz26_1, hfz26_2⟩ := bf3_ BK298) | ((with_reducible refine jF (f := 20) rfl ?_); refine jg (some 17) rfl rfl Try.func20 kr_ rfl #[.slice A0_1 l0_1.length c0_1] rfl mt_ ?_; (with_reducible refine (jm.calls k _ _ l0_1 t307 t308 _ ?side1 ?side2 A19.out).mono ?_); (case side1 => exact cc_ (Kd.jW HR0_1.out HB.out)); (case side2 => exact HC0_1.out); rintro e w27 ⟨rfl, hb⟩; refine ⟨_, rfl, ?_⟩; replace BK298 := bk_ BK298 hb; replace HB := jA.mk (jf (bb1_ HB GE298) hb); obtain ⟨hcz28_0, hcz28_1, hcz28_2, hfz28_0, hfz28_1, hfz28_2⟩ := bf3_ BK298) | ((with_reducible refine jF (f := 20) rfl ?_); refine jg (some 23) rfl rfl Try.func20 kr_ rfl #[.slice A0_2 l0_2.length c0_2] rfl mt_ ?_; (with_reducible refine (jm.calls k _ _ l0_2 t309 t310 _ ?side1 ?side2 A20.out).mono ?_); (case side1 => exact cc_ (Kd.jW HR0_2.out HB.out)); (case side2 => exact HC0_2.out); rintro e w29 ⟨rfl, hb⟩; refine ⟨_, rfl, ?_⟩; replace BK298 := bk_ BK298 hb; replace HB := jA.mk (jf (bb1_ HB GE298) hb)) | ((with_reducible refine jq (N := 27) rfl ?_); refine Kd.jAC (Kd.int .u8) _ 5 ?hg (N := 27) ?hd (xs := ([0] : List Int)) (inner := [.int .u8 0]) (ok := fun _ => True) (okp := fun _ => True) ?hr ?hp (fun _ hk => hk) trivial (Below.refl _ _) (Nat.le_refl _) (by simp) ?_; (case hd => rfl); (case hg => rfl); (case hr => exact gs_); (case hp => exact (Reps.one (show Kd.M (Kd.int .u8) _ _ _ 0 [.int .u8 0] from rfl) (Reps.none _ _))); intro v312 w30 ho31 hb hg_ hnew_; clear hg_ hnew_; (first | rw [← Ny311.out] at ho31 | (simp only [Int.reduceToNat] at ho31; rw [← Ny311.out] at ho31)); have HO313 := jA.mk (Kd.jZ ho31 (jB (bb1_ HB GE298))); replace BK298 := bk_ BK298 hb; replace HB := jA.mk (jf (bb1_ HB GE298) hb); clear hb ho31; have hcv32 := qN (P := Try.prog) Try.underlying60 Try.underlying5 Try.underlying9 (Kd.qd HO313.out)))
     go_ret2
     exact ⟨ew_, (bb1_ HB GE298)⟩
    ·
     rw [if_neg c22] at H
     exact absurd H (by simp)
   ·
    rw [if_neg c21] at H
    exact absurd H (by simp)
 ·
  replace c3 := Bool.eq_false_iff.mpr c3
  subst c3
  have H1 : (some ((⟨#[]⟩ : ByteArray), 1)) = some (r1, r2) := by rw [if_neg (show ¬ (false = true) by decide)] at H; exact H
  clear H
  have H := H1
  clear H1
  simp only [Option.some.injEq, Prod.mk.injEq] at H
  obtain ⟨rfl, rfl⟩ := H
  go_enter Try.func31, Try.ntmps31
  go_wp2_with (first | ((with_reducible refine jq (N := 1) rfl ?_); refine zf ?hg (N := 1) ?hd (cs := #[.bool a0_0, .slice A0_1 l0_1.length c0_1, .slice A0_2 l0_2.length c0_2]) (t := 44) ?hr ?_; (case hd => rfl); (case hg => rfl); (case hr => exact gs_); intro gb298 hg w33 hbox hb; have BK298 := jA.mk (hbox); have GW298 := jA.mk ((by rw [hg]; exact (jB (bb_ HB)) : w.heap.size ≤ gb298)); have GE298 := jA.mk ((by rw [hg]; exact (jB (bb_ HB)) : w.heap.size ≤ gb298)); replace HB := bs_ HB hb; clear hb hbox hg; obtain ⟨hcz34_0, hcz34_1, hcz34_2, hfz34_0, hfz34_1, hfz34_2⟩ := bf3_ BK298) | ((with_reducible refine jF (f := 27) rfl ?_); refine jg (some 10) rfl rfl Try.func27 kr_ rfl #[.agg #[.bool a0_0, .slice A0_1 l0_1.length c0_1, .slice A0_2 l0_2.length c0_2]] rfl mt_ ?_; (with_reducible refine (zu.calls k a0_0 _ _ l0_1 _ _ l0_2 false _ ?side1 ?side2 ?side3 ?side4 A2.out).mono ?_); (case side1 => exact cc_ (Kd.jW HR0_1.out HB.out)); (case side2 => exact HC0_1.out); (case side3 => exact cc_ (Kd.jW HR0_2.out HB.out)); (case side4 => exact HC0_2.out); rintro e w35 ⟨rfl, hb⟩; refine ⟨_, rfl, ?_⟩; replace BK298 := bk_ BK298 hb; replace HB := jA.mk (jf (bb1_ HB GE298) hb)))
  go_ret2
  exact ⟨ew_, (bb1_ HB GE298)⟩

/-! ### jh: function 85 -/
def jh.l0 : Nat → List Int → List Int → Int → Option (Bool)
 | 0, _, _, _ => none
 | k + 1, x0, x1, x5 => if x5 < (x0.length : Int) then (if 0 ≤ x5 then (if x5 < (x1.length : Int) then (if (rd x0 x5) = (rd x1 x5) then (jh.l0 k x0 x1 (wrap64 (x5 + 1))) else (some false)) else (none)) else (none)) else (some true)
def jh.f (k : Nat) (l0 : List Int) (l1 : List Int) : Option (Bool) := if (l0.length : Int) = (l1.length : Int) then (jh.l0 k l0 l1 0) else (some false)
theorem jh.vJ : ∀ k, (∀ y0 y1 y2, LeO (jh.l0 k y0 y1 y2) (jh.l0 (k + 1) y0 y1 y2))
 | 0 => fun _ _ _ r h => by simp [jh.l0] at h
 | k + 1 => by
  have ih0 := jh.vJ k
  ·
   intro y0 y1 y2
   unfold jh.l0
   repeat' first
   | (with_reducible exact ih0 _ _ _)
   | (with_reducible exact LeO.refl _)
   | (with_reducible exact LeO.none _)
   | (with_reducible refine LeO.ite ?_ ?_)
   | (with_reducible refine LeO.bind ?_ (fun _ => ?_))
theorem jh.mono : ∀ a0 a1 k, LeO (jh.f k a0 a1) (jh.f (k + 1) a0 a1) := by
 intro a0 a1 k
 have ih0 := jh.vJ k
 unfold jh.f
 repeat' first
   | (with_reducible exact ih0 _ _ _)
   | (with_reducible exact LeO.refl _)
   | (with_reducible exact LeO.none _)
   | (with_reducible refine LeO.ite ?_ ?_)
   | (with_reducible refine LeO.bind ?_ (fun _ => ?_))
theorem jh.calls (k : Nat) (A0 : Option Addr) (c0 : Nat) (l0 : List Int) (A1 : Option Addr) (c1 : Nat) (l1 : List Int) (r : Bool) (w : World) (hr0 : Kd.C (Kd.int .u64) w A0 l0.length l0) (hc0 : l0.length ≤ c0) (hr1 : Kd.C (Kd.int .u64) w A1 l1.length l1) (hc1 : l1.length ≤ c1) (h : jh.f k l0 l1 = some r) :
  Calls Try.prog 85 #[.slice A0 l0.length c0, .slice A1 l1.length c1] w fun e w' => e = .returned (.bool r) ∧ zH w w' := by
 have HR0 := jA.mk hr0
 have HC0 := jA.mk hc0
 clear hr0 hc0
 have HR1 := jA.mk hr1
 have HC1 := jA.mk hc1
 clear hr1 hc1
 have H : (if (l0.length : Int) = (l1.length : Int) then (jh.l0 k l0 l1 0) else (some false)) = some r := h
 clear h
 by_cases c3 : (l0.length : Int) = (l1.length : Int)
 ·
  rw [if_pos c3] at H
  have c3b0 := beq_iff_eq.mpr c3
  have c3b1 := bne_eq_false_iff_eq.mpr c3
  have c3b2 : (l0.length == l1.length) = true := by first | simpa using c3 | (simp at c3 ⊢; omega)
  clear c3
  have H' := jA.mk H
  clear H
  go_enter Try.func85, Try.ntmps85
  go_wp2
  repeat (go_quiet (fail); try go_wp2)
  go_loopg [5] k (fun kq v5 w' => ∃ (x5_1 : Int), v5 = .int .i64 x5_1 ∧ jA (jh.l0 kq l0 l1 x5_1 = some r) ∧ jA (kq ≤ k) ∧ zH w w')
  case atStart => exact ⟨(0), sd_, H', ⟨Nat.le_refl _⟩, by repeat (first | exact zH.refl _ | apply zH.step)⟩
  case round =>
   clear H'
   try clear c1
   try clear p2
   try clear c3
   try clear c3b0
   try clear c3b1
   try clear c3b2
   obtain ⟨x5_1, rfl, HA, HK1, ⟨m1, rfl⟩⟩ := hrel
   cases gk with
   | zero => exact absurd HA.out (by simp [jh.l0])
   | succ k1 =>
    have H := HA.out
    clear HA
    simp only [jh.l0] at H
    by_cases c4 : x5_1 < (l0.length : Int)
    ·
     rw [if_pos c4] at H
     have c4b0 := decide_eq_true c4
     clear c4
     by_cases c5 : 0 ≤ x5_1
     ·
      rw [if_pos c5] at H
      have c5b0 := decide_eq_true c5
      clear c5
      by_cases c6 : x5_1 < (l1.length : Int)
      ·
       rw [if_pos c6] at H
       have c6b0 := decide_eq_true c6
       clear c6
       by_cases c7 : (rd l0 x5_1) = (rd l1 x5_1)
       ·
        rw [if_pos c7] at H
        have c7b0 := beq_iff_eq.mpr c7
        have c7b1 := bne_eq_false_iff_eq.mpr c7
        clear c7
        have H' := jA.mk H
        clear H
        have p314 : 0 ≤ (x5_1 : Int) := of_decide_eq_true am_
        have q314 : x5_1 < (l0.length : Int) := of_decide_eq_true am_
        obtain ⟨ad314, e314, hx314_0⟩ := Kd.vW HR0.out x5_1 p314 q314
        cases e314
        replace p314 := eq_true p314
        replace q314 := eq_true q314
        have p315 : 0 ≤ (x5_1 : Int) := of_decide_eq_true am_
        have q315 : x5_1 < (l1.length : Int) := of_decide_eq_true am_
        obtain ⟨ad315, e315, hx315_0⟩ := Kd.vW HR1.out x5_1 p315 q315
        cases e315
        replace p315 := eq_true p315
        replace q315 := eq_true q315
        go_wp2
        repeat (go_quiet (fail); try go_wp2)
        go_roundg k1
        case measure => have := HK1.out; omega
        case rel => exact ⟨(wrap64 (x5_1 + 1)), sd_, H', ⟨by have := HK1.out; omega⟩, by repeat (first | exact zH.refl _ | apply zH.step)⟩
       ·
        rw [if_neg c7] at H
        have c7b0 := beq_eq_false_iff_ne.mpr c7
        have c7b1 := bne_iff_ne.mpr c7
        obtain rfl := Option.some.inj H
        have p314 : 0 ≤ (x5_1 : Int) := of_decide_eq_true am_
        have q314 : x5_1 < (l0.length : Int) := of_decide_eq_true am_
        obtain ⟨ad314, e314, hx314_0⟩ := Kd.vW HR0.out x5_1 p314 q314
        cases e314
        replace p314 := eq_true p314
        replace q314 := eq_true q314
        have p315 : 0 ≤ (x5_1 : Int) := of_decide_eq_true am_
        have q315 : x5_1 < (l1.length : Int) := of_decide_eq_true am_
        obtain ⟨ad315, e315, hx315_0⟩ := Kd.vW HR1.out x5_1 p315 q315
        cases e315
        replace p315 := eq_true p315
        replace q315 := eq_true q315
        go_wp2
        repeat (go_quiet (fail); try go_wp2)
        go_ret
        exact ⟨by first | rfl | (simp; done) | (simp [*]; done), by repeat (first | exact zH.refl _ | apply zH.step)⟩
      ·
       rw [if_neg c6] at H
       exact absurd H (by simp)
     ·
      rw [if_neg c5] at H
      exact absurd H (by simp)
    ·
     rw [if_neg c4] at H
     have c4b0 := decide_eq_false c4
     clear c4
     obtain rfl := Option.some.inj H
     go_wp2
     repeat (go_quiet (fail); try go_wp2)
     go_ret
     exact ⟨by first | rfl | (simp; done) | (simp [*]; done), by repeat (first | exact zH.refl _ | apply zH.step)⟩
 ·
  rw [if_neg c3] at H
  have c3b0 := beq_eq_false_iff_ne.mpr c3
  have c3b1 := bne_iff_ne.mpr c3
  have c3b2 : (l0.length == l1.length) = false := by first | simpa using c3 | (simp at c3 ⊢; omega)
  obtain rfl := Option.some.inj H
  go_enter Try.func85, Try.ntmps85
  go_wp2
  repeat (go_quiet (fail); try go_wp2)
  go_ret
  exact ⟨by first | rfl | (simp; done) | (simp [*]; done), by repeat (first | exact zH.refl _ | apply zH.step)⟩

/-! ### vN: function 47 -/
def vN.f (k : Nat) (l0 : List Int) (l1 : List Int) : Option (Bool) := (jh.f k l0 l1).bind fun t316 => (some t316)
theorem vN.mono : ∀ a0 a1 k, LeO (vN.f k a0 a1) (vN.f (k + 1) a0 a1) := by
 intro a0 a1 k
 unfold vN.f
 repeat' first
   | (with_reducible exact jh.mono _ _ _)
   | (with_reducible exact LeO.refl _)
   | (with_reducible exact LeO.none _)
   | (with_reducible refine LeO.ite ?_ ?_)
   | (with_reducible refine LeO.bind ?_ (fun _ => ?_))
theorem vN.calls (k : Nat) (A0 : Option Addr) (c0 : Nat) (l0 : List Int) (A1 : Option Addr) (c1 : Nat) (l1 : List Int) (r : Bool) (w : World) (hr0 : Kd.C (Kd.int .u64) w A0 l0.length l0) (hc0 : l0.length ≤ c0) (hr1 : Kd.C (Kd.int .u64) w A1 l1.length l1) (hc1 : l1.length ≤ c1) (h : vN.f k l0 l1 = some r) :
  Calls Try.prog 47 #[.slice A0 l0.length c0, .slice A1 l1.length c1] w fun e w' => e = .returned (.bool r) ∧ zH w w' := by
 have HR0 := jA.mk hr0
 have HC0 := jA.mk hc0
 clear hr0 hc0
 have HR1 := jA.mk hr1
 have HC1 := jA.mk hc1
 clear hr1 hc1
 have H : ((jh.f k l0 l1).bind fun t316 => (some t316)) = some r := h
 clear h
 replace H := ob_ H
 obtain ⟨t316, A30, H⟩ := H
 replace H : (some t316) = some r := H
 have A3 := jA.mk A30
 clear A30
 obtain rfl := Option.some.inj H
 go_enter Try.func47, Try.ntmps47
 go_wp2_with (first | ((with_reducible refine jF (f := 85) rfl ?_); refine jg (some 7) rfl rfl Try.func85 kr_ rfl #[.slice A0 l0.length c0, .slice A1 l1.length c1] rfl mt_ ?_; (with_reducible refine (jh.calls k _ _ l0 _ _ l1 t316 _ ?side1 ?side2 ?side3 ?side4 A3.out).mono ?_); (case side1 => exact cc_ HR0.out); (case side2 => exact HC0.out); (case side3 => exact cc_ HR1.out); (case side4 => exact HC1.out); rintro e w' ⟨rfl, ⟨nd, rfl⟩⟩; refine ⟨_, rfl, ?_⟩))
 go_ret
 exact ⟨by first | rfl | (simp; done) | (simp [*]; done), by repeat (first | exact zH.refl _ | apply zH.step)⟩

/-! ### jV: function 25 -/
def jV.l0 : Nat → List Int → Int → Option (List Int)
 | 0, _, _ => none
 | k + 1, x0, x3 => if x3 > 0 then (if 0 ≤ (wrap64 (x3 - 1)) then (if (wrap64 (x3 - 1)) < (x0.length : Int) then (if (rd x0 (wrap64 (x3 - 1))) = 0 then (jV.l0 k x0 (wrap64 (x3 - 1))) else ((some (([] : List Int) : List Int)).bind fun y318 => (if 0 ≤ x3 then (if x3 ≤ (x0.length : Int) then (if y318.length + (x0.take (x3 : Int).toNat).length < 17592186044416 then (some (y318 ++ (x0.take (x3 : Int).toNat))) else (none)) else (none)) else (none)))) else (none)) else (none)) else ((some (([] : List Int) : List Int)).bind fun y325 => (if 0 ≤ x3 then (if x3 ≤ (x0.length : Int) then (if y325.length + (x0.take (x3 : Int).toNat).length < 17592186044416 then (some (y325 ++ (x0.take (x3 : Int).toNat))) else (none)) else (none)) else (none)))
def jV.f (k : Nat) (l0 : List Int) : Option (List Int) := jV.l0 k l0 (l0.length : Int)
theorem jV.vJ : ∀ k, (∀ y0 y1, LeO (jV.l0 k y0 y1) (jV.l0 (k + 1) y0 y1))
 | 0 => fun _ _ r h => by simp [jV.l0] at h
 | k + 1 => by
  have ih0 := jV.vJ k
  ·
   intro y0 y1
   unfold jV.l0
   repeat' first
   | (with_reducible exact ih0 _ _)
   | (with_reducible exact LeO.refl _)
   | (with_reducible exact LeO.none _)
   | (with_reducible refine LeO.ite ?_ ?_)
   | (with_reducible refine LeO.bind ?_ (fun _ => ?_))
theorem jV.mono : ∀ a0 k, LeO (jV.f k a0) (jV.f (k + 1) a0) := by
 intro a0 k
 have ih0 := jV.vJ k
 unfold jV.f
 repeat' first
   | (with_reducible exact ih0 _ _)
   | (with_reducible exact LeO.refl _)
   | (with_reducible exact LeO.none _)
   | (with_reducible refine LeO.ite ?_ ?_)
   | (with_reducible refine LeO.bind ?_ (fun _ => ?_))
theorem jV.calls (k : Nat) (A0 : Option Addr) (c0 : Nat) (l0 : List Int) (r : List Int) (w : World) (hr0 : Kd.C (Kd.int .u64) w A0 l0.length l0) (hc0 : l0.length ≤ c0) (h : jV.f k l0 = some r) :
  Calls Try.prog 25 #[.slice A0 l0.length c0] w fun e w' => ∃ v0_ : Value, e = .returned (v0_) ∧ Kd.R (Kd.int .u64) 22 w' w.heap.size (fun _ => True) v0_ r ∧ Below w.heap.size w w' := by
 have HR0 := jA.mk hr0
 have HC0 := jA.mk hc0
 clear hr0 hc0
 have HB := jA.mk (Below.refl w.heap.size w)
 have H : (jV.l0 k l0 (l0.length : Int)) = some r := h
 clear h
 have H' := jA.mk H
 clear H
 go_enter Try.func25, Try.ntmps25
 go_wp2
 go_loopg [3] k (fun kq v3 w' => ∃ (x3_1 : Int), v3 = .int .i64 x3_1 ∧ jA (jV.l0 kq l0 x3_1 = some r) ∧ jA (kq ≤ k) ∧ jA (Below w.heap.size w w'))
 case atStart => exact ⟨((l0.length : Int)), sd_, H', ⟨Nat.le_refl _⟩, ⟨(bb_ HB)⟩⟩
 case round =>
  clear H'
  obtain ⟨x3_1, rfl, HA, HK1, HB⟩ := hrel
  cases gk with
  | zero => exact absurd HA.out (by simp [jV.l0])
  | succ k1 =>
   have H := HA.out
   clear HA
   simp only [jV.l0] at H
   by_cases c2 : x3_1 > 0
   ·
    rw [if_pos c2] at H
    have c2b0 := decide_eq_true c2
    clear c2
    obtain ⟨ji3, hji3⟩ : ∃ j_ : Int, (wrap64 (x3_1 - 1)) = j_ := ⟨_, rfl⟩
    replace H : (if 0 ≤ (ji3) then (if (ji3) < (l0.length : Int) then (if (rd l0 (ji3)) = 0 then (jV.l0 k1 l0 ji3) else ((some (([] : List Int) : List Int)).bind fun y318 => (if 0 ≤ x3_1 then (if x3_1 ≤ (l0.length : Int) then (if y318.length + (l0.take (x3_1 : Int).toNat).length < 17592186044416 then (some (y318 ++ (l0.take (x3_1 : Int).toNat))) else (none)) else (none)) else (none)))) else (none)) else (none)) = some r := by first | (rw [hji3] at H; exact H) | (simp only [hji3] at H ⊢; exact H)
    have hji3w : (IntKind.i64.wrap (x3_1 - 1)) = ji3 := (vY _).trans hji3
    by_cases c4 : 0 ≤ (ji3)
    ·
     rw [if_pos c4] at H
     have c4b0 := decide_eq_true c4
     clear c4
     by_cases c5 : (ji3) < (l0.length : Int)
     ·
      rw [if_pos c5] at H
      have c5b0 := decide_eq_true c5
      clear c5
      by_cases c6 : (rd l0 (ji3)) = 0
      ·
       rw [if_pos c6] at H
       have c6b0 := beq_iff_eq.mpr c6
       have c6b1 := bne_eq_false_iff_eq.mpr c6
       clear c6
       have H' := jA.mk H
       clear H
       have p317 : 0 ≤ ((ji3) : Int) := of_decide_eq_true am_
       have q317 : (ji3) < (l0.length : Int) := of_decide_eq_true am_
       obtain ⟨ad317, e317, hx317_0⟩ := Kd.vW HR0.out (ji3) p317 q317
       cases e317
       replace hx317_0 := (HB.out.cell (World.block_lt_of_cell? w _ hx317_0)).trans hx317_0
       replace p317 := eq_true p317
       replace q317 := eq_true q317
       go_wp2
       go_roundg k1
       case measure => have := HK1.out; omega
       case rel => exact ⟨(ji3), (by first | rfl | (simp; done) | (simp only [← hji3] <;> (first | rfl | simp)) | (simp [*]; done)), H', ⟨by have := HK1.out; omega⟩, ⟨(bb_ HB)⟩⟩
      ·
       rw [if_neg c6] at H
       have c6b0 := beq_eq_false_iff_ne.mpr c6
       have c6b1 := bne_iff_ne.mpr c6
       obtain ⟨y318, hy318⟩ : ∃ y_ : List Int, y_ = (([] : List Int)) := ⟨_, rfl⟩
       replace H : (if 0 ≤ x3_1 then (if x3_1 ≤ (l0.length : Int) then (if y318.length + (l0.take (x3_1 : Int).toNat).length < 17592186044416 then (some (y318 ++ (l0.take (x3_1 : Int).toNat))) else (none)) else (none)) else (none)) = some r := by first | (rw [hy318]; with_reducible exact H) | (have H2_ := (Option.bind_some _ _).symm.trans H; rw [hy318]; with_reducible exact H2_) | (with_reducible exact hs_ H) | with_reducible exact H | (rw [hy318]; exact H) | exact H
       have Ny318 := jA.mk hy318
       clear hy318
       by_cases c7 : 0 ≤ x3_1
       ·
        rw [if_pos c7] at H
        have c7b0 := eq_true c7
        have c7b1 := decide_eq_true c7
        clear c7
        by_cases c8 : x3_1 ≤ (l0.length : Int)
        ·
         rw [if_pos c8] at H
         have c8b0 := eq_true c8
         have c8b1 := decide_eq_true c8
         clear c8
         by_cases c9 : y318.length + (l0.take (x3_1 : Int).toNat).length < 17592186044416
         ·
          rw [if_pos c9] at H
          have LMc9 := jA.mk c9
          clear c9
          obtain ⟨y322, hy322⟩ : ∃ y_ : List Int, y_ = (y318 ++ (l0.take (x3_1 : Int).toNat)) := ⟨_, rfl⟩
          replace H : (some y322) = some r := by first | (rw [hy322]; with_reducible exact H) | (have H2_ := (Option.bind_some _ _).symm.trans H; rw [hy322]; with_reducible exact H2_) | (with_reducible exact hs_ H) | with_reducible exact H | (rw [hy322]; exact H) | exact H
          have Ny322 := jA.mk hy322
          clear hy322
          obtain rfl := Option.some.inj H
          have p317 : 0 ≤ ((ji3) : Int) := of_decide_eq_true am_
          have q317 : (ji3) < (l0.length : Int) := of_decide_eq_true am_
          obtain ⟨ad317, e317, hx317_0⟩ := Kd.vW HR0.out (ji3) p317 q317
          cases e317
          replace hx317_0 := (HB.out.cell (World.block_lt_of_cell? w _ hx317_0)).trans hx317_0
          replace p317 := eq_true p317
          replace q317 := eq_true q317
          go_wp2_with (first | ((with_reducible refine jq (N := 19) rfl ?_); refine Kd.jAC (Kd.int .u64) _ 22 ?hg (N := 19) ?hd (xs := ([] : List Int)) (inner := []) (ok := fun _ => True) (okp := fun _ => True) ?hr ?hp (fun _ hk => hk) trivial (Below.refl _ _) (Nat.le_refl _) (by simp) ?_; (case hd => rfl); (case hg => rfl); (case hr => exact gs_); (case hp => exact (Reps.none _ _)); intro v319 w10 ho11 hb hg_ hnew_; clear hg_ hnew_; (first | rw [← Ny318.out] at ho11 | (simp only [Int.reduceToNat] at ho11; rw [← Ny318.out] at ho11)); have HO320 := jA.mk (Kd.jZ ho11 (jB (bb_ HB))); replace HB := bs_ HB hb; clear hb ho11; obtain ⟨i012, hi012, _, hsz12, _⟩ := info_parts zx; obtain ⟨hcut12, hA12, hC12⟩ := jBT (P := Try.prog) (Value.int .u64) 0 35 22 .i64 Try.underlying35 hi012 hsz12 (some ad317) c0 l0 x3_1 (of_decide_eq_true am_) (of_decide_eq_true am_) HC0.out; have HR321 := jA.mk (Kd.jCq (h1 := fun _ => rfl) (hA12 _ (Kd.jBa HR0.out))); have HC321 := jA.mk hC12; clear hA12 hC12 hi012 hsz12) | ((with_reducible refine vV (b := .append) (xs := #[.tmp 20, .tmp 23]) rfl ?_); at_builtin; refine Kd.jAV (Kd.int .u64) (w0 := w) w.heap.size rfl (.tmp 20) (.tmp 23) 35 22 (.int .u64 0) 8 rfl Try.underlying35 zx rfl (by decide) (by omega) v319 y318 (l0.take (x3_1 : Int).toNat) _ _ _ (fun _ => True) (fun _ => False) rfl rfl ?aO ?aR (fun _ _ h => h) (fun _ h => h.elim) ?aF ?aB ?aS ?aL ?_; (case aR => first | (refine jBi (show (l0.take (x3_1 : Int).toNat).length = x3_1.toNat from (by rw [List.length_take]; have h_ : (x3_1 : Int) ≤ (l0.length : Int) := of_decide_eq_true am_; omega)) ?_; exact cc_ (Kd.jW HR321.out HB.out)) | (exact cc_ (Kd.jW HR321.out HB.out))); (case aB => exact (bb_ HB)); (case aF => exact (fun _ _ => trivial)); (case aO => exact (rR_ HO320)); (case aS => exact (jB (bb_ HB))); (case aL => have := LMc9.out; have hlx_ := (show (l0.take (x3_1 : Int).toNat).length = x3_1.toNat from (by rw [List.length_take]; have h_ : (x3_1 : Int) ≤ (l0.length : Int) := of_decide_eq_true am_; omega)); omega); intro v323 w13 ho hb hg hat; rw [← Ny322.out] at ho; replace HB := jA.mk (hb); have HO324 := jA.mk (ho); clear HO320 ho hb hg hat))
          go_ret
          exact ⟨_, by first | rfl | (simp [vM, vL] <;> rfl) | (simp only [← hji3]; first | rfl | (simp [vM, vL] <;> rfl)) | (simp [*, vM, vL] <;> rfl), (rR_ HO324), (bb_ HB)⟩
         ·
          rw [if_neg c9] at H
          exact absurd H (by simp)
        ·
         rw [if_neg c8] at H
         exact absurd H (by simp)
       ·
        rw [if_neg c7] at H
        exact absurd H (by simp)
     ·
      rw [if_neg c5] at H
      exact absurd H (by simp)
    ·
     rw [if_neg c4] at H
     exact absurd H (by simp)
   ·
    rw [if_neg c2] at H
    have c2b0 := decide_eq_false c2
    clear c2
    obtain ⟨y325, hy325⟩ : ∃ y_ : List Int, y_ = (([] : List Int)) := ⟨_, rfl⟩
    replace H : (if 0 ≤ x3_1 then (if x3_1 ≤ (l0.length : Int) then (if y325.length + (l0.take (x3_1 : Int).toNat).length < 17592186044416 then (some (y325 ++ (l0.take (x3_1 : Int).toNat))) else (none)) else (none)) else (none)) = some r := by first | (rw [hy325]; with_reducible exact H) | (have H2_ := (Option.bind_some _ _).symm.trans H; rw [hy325]; with_reducible exact H2_) | (with_reducible exact hs_ H) | with_reducible exact H | (rw [hy325]; exact H) | exact H
    have Ny325 := jA.mk hy325
    clear hy325
    by_cases c14 : 0 ≤ x3_1
    ·
     rw [if_pos c14] at H
     have c14b0 := eq_true c14
     have c14b1 := decide_eq_true c14
     clear c14
     by_cases c15 : x3_1 ≤ (l0.length : Int)
     ·
      rw [if_pos c15] at H
      have c15b0 := eq_true c15
      have c15b1 := decide_eq_true c15
      clear c15
      by_cases c16 : y325.length + (l0.take (x3_1 : Int).toNat).length < 17592186044416
      ·
       rw [if_pos c16] at H
       have LMc16 := jA.mk c16
       clear c16
       obtain ⟨y329, hy329⟩ : ∃ y_ : List Int, y_ = (y325 ++ (l0.take (x3_1 : Int).toNat)) := ⟨_, rfl⟩
       replace H : (some y329) = some r := by first | (rw [hy329]; with_reducible exact H) | (have H2_ := (Option.bind_some _ _).symm.trans H; rw [hy329]; with_reducible exact H2_) | (with_reducible exact hs_ H) | with_reducible exact H | (rw [hy329]; exact H) | exact H
       have Ny329 := jA.mk hy329
       clear hy329
       obtain rfl := Option.some.inj H
       go_wp2_with (first | ((with_reducible refine jq (N := 19) rfl ?_); refine Kd.jAC (Kd.int .u64) _ 22 ?hg (N := 19) ?hd (xs := ([] : List Int)) (inner := []) (ok := fun _ => True) (okp := fun _ => True) ?hr ?hp (fun _ hk => hk) trivial (Below.refl _ _) (Nat.le_refl _) (by simp) ?_; (case hd => rfl); (case hg => rfl); (case hr => exact gs_); (case hp => exact (Reps.none _ _)); intro v326 w17 ho18 hb hg_ hnew_; clear hg_ hnew_; (first | rw [← Ny325.out] at ho18 | (simp only [Int.reduceToNat] at ho18; rw [← Ny325.out] at ho18)); have HO327 := jA.mk (Kd.jZ ho18 (jB (bb_ HB))); replace HB := bs_ HB hb; clear hb ho18; obtain ⟨i019, hi019, _, hsz19, _⟩ := info_parts zx; obtain ⟨hcut19, hA19, hC19⟩ := jBT (P := Try.prog) (Value.int .u64) 0 35 22 .i64 Try.underlying35 hi019 hsz19 A0 c0 l0 x3_1 (of_decide_eq_true am_) (of_decide_eq_true am_) HC0.out; have HR328 := jA.mk (Kd.jCq (h1 := fun _ => rfl) (hA19 _ (Kd.jBa HR0.out))); have HC328 := jA.mk hC19; clear hA19 hC19 hi019 hsz19) | ((with_reducible refine vV (b := .append) (xs := #[.tmp 20, .tmp 23]) rfl ?_); at_builtin; refine Kd.jAV (Kd.int .u64) (w0 := w) w.heap.size rfl (.tmp 20) (.tmp 23) 35 22 (.int .u64 0) 8 rfl Try.underlying35 zx rfl (by decide) (by omega) v326 y325 (l0.take (x3_1 : Int).toNat) _ _ _ (fun _ => True) (fun _ => False) rfl rfl ?aO ?aR (fun _ _ h => h) (fun _ h => h.elim) ?aF ?aB ?aS ?aL ?_; (case aR => first | (refine jBi (show (l0.take (x3_1 : Int).toNat).length = x3_1.toNat from (by rw [List.length_take]; have h_ : (x3_1 : Int) ≤ (l0.length : Int) := of_decide_eq_true am_; omega)) ?_; exact cc_ (Kd.jW HR328.out HB.out)) | (exact cc_ (Kd.jW HR328.out HB.out))); (case aB => exact (bb_ HB)); (case aF => exact (fun _ _ => trivial)); (case aO => exact (rR_ HO327)); (case aS => exact (jB (bb_ HB))); (case aL => have := LMc16.out; have hlx_ := (show (l0.take (x3_1 : Int).toNat).length = x3_1.toNat from (by rw [List.length_take]; have h_ : (x3_1 : Int) ≤ (l0.length : Int) := of_decide_eq_true am_; omega)); omega); intro v330 w20 ho hb hg hat; rw [← Ny329.out] at ho; replace HB := jA.mk (hb); have HO331 := jA.mk (ho); clear HO327 ho hb hg hat))
       go_ret
       exact ⟨_, ew_, (rR_ HO331), (bb_ HB)⟩
      ·
       rw [if_neg c16] at H
       exact absurd H (by simp)
     ·
      rw [if_neg c15] at H
      exact absurd H (by simp)
    ·
     rw [if_neg c14] at H
     exact absurd H (by simp)

/-! ### vU: function 21 -/
def vU.f (k : Nat) (a0 : Int) : Option (List Int) := (jV.f k (([a0] : List Int))).bind fun t335 => (some t335)
theorem vU.mono : ∀ a0 k, LeO (vU.f k a0) (vU.f (k + 1) a0) := by
 intro a0 k
 unfold vU.f
 repeat' first
   | (with_reducible exact jV.mono _ _)
   | (with_reducible exact LeO.refl _)
   | (with_reducible exact LeO.none _)
   | (with_reducible refine LeO.ite ?_ ?_)
   | (with_reducible refine LeO.bind ?_ (fun _ => ?_))
theorem vU.calls (k : Nat) (a0 : Int) (r : List Int) (w : World) (h : vU.f k a0 = some r) :
  Calls Try.prog 21 #[.int .u64 a0] w fun e w' => ∃ v0_ : Value, e = .returned (v0_) ∧ Kd.R (Kd.int .u64) 22 w' w.heap.size (fun _ => True) v0_ r ∧ Below w.heap.size w w' := by
 have HB := jA.mk (Below.refl w.heap.size w)
 have H : ((jV.f k (([a0] : List Int))).bind fun t335 => (some t335)) = some r := h
 clear h
 obtain ⟨y332, hy332⟩ : ∃ y_ : List Int, y_ = (([a0] : List Int)) := ⟨_, rfl⟩
 replace H : ((jV.f k y332).bind fun t335 => (some t335)) = some r := by first | (rw [hy332]; with_reducible exact H) | (have H2_ := (Option.bind_some _ _).symm.trans H; rw [hy332]; with_reducible exact H2_) | (with_reducible exact hs_ H) | with_reducible exact H | (rw [hy332]; exact H) | exact H
 have Ny332 := jA.mk hy332
 clear hy332
 replace H := ob_ H
 obtain ⟨t335, A20, H⟩ := H
 replace H : (some t335) = some r := H
 have A2 := jA.mk A20
 clear A20
 obtain rfl := Option.some.inj H
 go_enter Try.func21, Try.ntmps21
 go_wp2_with (first | ((with_reducible refine jq (N := 4) rfl ?_); refine Kd.jAC (Kd.int .u64) _ 22 ?hg (N := 4) ?hd (xs := ([a0] : List Int)) (inner := [.int .u64 a0]) (ok := fun _ => True) (okp := fun _ => True) ?hr ?hp (fun _ hk => hk) trivial (Below.refl _ _) (Nat.le_refl _) (by simp) ?_; (case hd => rfl); (case hg => rfl); (case hr => exact gs_); (case hp => exact (Reps.one (show Kd.M (Kd.int .u64) _ _ _ a0 [.int .u64 a0] from rfl) (Reps.none _ _))); intro v333 w3 ho4 hb hg_ hnew_; clear hg_ hnew_; (first | rw [← Ny332.out] at ho4 | (simp only [Int.reduceToNat] at ho4; rw [← Ny332.out] at ho4)); have HO334 := jA.mk (Kd.jZ ho4 (jB (bb_ HB))); replace HB := bs_ HB hb; clear hb ho4; obtain ⟨Ao5, co5, eo5⟩ := Kd.jr HO334.out; subst eo5) | ((with_reducible refine jF (f := 25) rfl ?_); refine jg (some 5) rfl rfl Try.func25 kr_ rfl #[.slice Ao5 y332.length co5] rfl mt_ ?_; (with_reducible refine (jV.calls k _ _ y332 t335 _ ?side1 ?side2 A2.out).mono ?_); (case side1 => exact cc_ (Kd.jH HO334.out).2.2); (case side2 => exact (Kd.jH HO334.out).2.1); rintro e w6 ⟨v336, rfl, ho0, hb⟩; refine ⟨_, rfl, ?_⟩; have HO337 := jA.mk (Kd.jZ (Kd.jS ho0 (Kd.R_lt (rR_ HO334))) (jB (bb_ HB))); replace HO334 := re_ HO334 ho0 hb; replace HB := bs_ HB hb))
 go_ret
 exact ⟨_, ew_, by refine pR_ ?_; exact Kd.jl HO337.out (fun _ hk => trivial), (bb_ HB)⟩

end Go.Proofs.Ytijgeonhbmgikaa.POOctetPuts
