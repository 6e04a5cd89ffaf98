-- printed (pr.py)
import Derived.Test.YtijgeonhbmgikaaPOOctetOnex0
import Derived.Test.YtijgeonhbmgikaaPOOctetOnex1
import Derived.Test.YtijgeonhbmgikaaPOOctetOnex3
import Derived.Test.YtijgeonhbmgikaaPOOctetOnex4
import Derived.Test.YtijgeonhbmgikaaPOOctetOnex11
namespace Go.Proofs.Ytijgeonhbmgikaa.POOctetOne
open Go.RowKit Go.Proofs.YtijgeonhbmgikaaN Go.Proofs.YtijgeonhbmgikaaW.PrintWords Go.Proofs.YtijgeonhbmgikaaW.PrintLast Go.Proofs.YtijgeonhbmgikaaW.PrintMore
attribute [local go_sem] zQ zN qA zy zC zA zP zM
set_option maxHeartbeats 8000000
set_option maxRecDepth 100000
set_option linter.unusedVariables false
set_option linter.unusedSimpArgs false

/-! ### vT: function 27 -/
def vT.f (k : Nat) (a0_0 : Bool) (l0_1 : List Int) (l0_2 : List Int) : Option (Bool) := (jV.f k l0_1 l0_2).bind fun bt277 => (if bt277.2 = 0 then (if (l0_2.length : Int) > 0 then ((zx.f k bt277.1 (([1] : List Int))).bind fun t284 => (if t284 = 0 then (if a0_0 = true then ((zh.f a0_0 l0_1 l0_2).bind fun t285 => (some (!t285))) else (some true)) else (some false))) else (some false)) else (some false))
theorem vT.mono : ∀ a0 a1 a2 k, LeO (vT.f k a0 a1 a2) (vT.f (k + 1) a0 a1 a2) := by
 intro a0 a1 a2 k
 unfold vT.f
 repeat' first
   | (with_reducible exact zx.mono _ _ _)
   | (with_reducible exact jV.mono _ _ _)
   | (with_reducible exact LeO.refl _)
   | (with_reducible exact LeO.none _)
   | (with_reducible refine LeO.ite ?_ ?_)
   | (with_reducible refine LeO.bind ?_ (fun _ => ?_))
theorem vT.calls (k : Nat) (a0_0 : Bool) (A0_1 : Option Addr) (c0_1 : Nat) (l0_1 : List Int) (A0_2 : Option Addr) (c0_2 : Nat) (l0_2 : List Int) (r : Bool) (w : World) (hr0_1 : Kd.C (Kd.int .u64) w A0_1 l0_1.length l0_1) (hc0_1 : l0_1.length ≤ c0_1) (hr0_2 : Kd.C (Kd.int .u64) w A0_2 l0_2.length l0_2) (hc0_2 : l0_2.length ≤ c0_2) (h : vT.f k a0_0 l0_1 l0_2 = some r) :
  Calls Try.prog 27 #[.agg #[.bool a0_0, .slice A0_1 l0_1.length c0_1, .slice A0_2 l0_2.length c0_2]] w fun e w' => e = .returned (.bool r) ∧ Below w.heap.size w w' := by
 have hu44 := Try.underlying44
 have HR0_1 := jA.mk hr0_1
 have HC0_1 := jA.mk hc0_1
 clear hr0_1 hc0_1
 have HR0_2 := jA.mk hr0_2
 have HC0_2 := jA.mk hc0_2
 clear hr0_2 hc0_2
 have HB := jA.mk (Below.refl w.heap.size w)
 have H : ((jV.f k l0_1 l0_2).bind fun bt277 => (if bt277.2 = 0 then (if (l0_2.length : Int) > 0 then ((zx.f k bt277.1 (([1] : List Int))).bind fun t284 => (if t284 = 0 then (if a0_0 = true then ((zh.f a0_0 l0_1 l0_2).bind fun t285 => (some (!t285))) else (some true)) else (some false))) else (some false)) else (some false))) = some r := h
 clear h
 replace H := ob_ H
 obtain ⟨⟨t277, t278⟩, A20, H⟩ := H
 try dsimp only at H
 have A2 := jA.mk A20
 clear A20
 by_cases c3 : t278 = 0
 ·
  rw [if_pos c3] at H
  have c3b0 := beq_iff_eq.mpr c3
  have c3b1 := bne_eq_false_iff_eq.mpr c3
  clear c3
  by_cases c4 : (l0_2.length : Int) > 0
  ·
   rw [if_pos c4] at H
   have c4b0 := decide_eq_true c4
   have c4b1 : decide (0 < l0_2.length) = true := decide_eq_true (by omega)
   clear c4
   obtain ⟨y281, hy281⟩ : ∃ y_ : List Int, y_ = (([1] : List Int)) := ⟨_, rfl⟩
   replace H : ((zx.f k t277 y281).bind fun t284 => (if t284 = 0 then (if a0_0 = true then ((zh.f a0_0 l0_1 l0_2).bind fun t285 => (some (!t285))) else (some true)) else (some false))) = some r := by first | (rw [hy281]; with_reducible exact H) | (have H2_ := (Option.bind_some _ _).symm.trans H; rw [hy281]; with_reducible exact H2_) | (with_reducible exact hs_ H) | with_reducible exact H | (rw [hy281]; exact H) | exact H
   have Ny281 := jA.mk hy281
   clear hy281
   replace H := ob_ H
   obtain ⟨t284, A50, H⟩ := H
   try dsimp only at H
   have A5 := jA.mk A50
   clear A50
   by_cases c6 : t284 = 0
   ·
    rw [if_pos c6] at H
    have c6b0 := beq_iff_eq.mpr c6
    have c6b1 := bne_eq_false_iff_eq.mpr c6
    clear c6
    by_cases c7 : a0_0 = true
    ·
     subst c7
     have H1 : ((zh.f true l0_1 l0_2).bind fun t285 => (some (!t285))) = some r := by rw [if_pos rfl] at H; exact H
     clear H
     have H := H1
     clear H1
     replace H := ob_ H
     obtain ⟨t285, A80, H⟩ := H
     try dsimp only at H
     have A8 := jA.mk A80
     clear A80
     obtain rfl := Option.some.inj H
     go_enter Try.func27, Try.ntmps27
     go_wp2_with (first | ((with_reducible refine jv (N := 1) rfl ?_); (try (refine vC (by rfl) ?_; dsimp only)); refine zY ?hg (N := 1) ?hd (cs := #[.bool true, .slice A0_1 l0_1.length c0_1, .slice A0_2 l0_2.length c0_2]) (t := 44) ?hr ?_; (case hd => rfl); (case hg => rfl); (case hr => exact gs_); intro gb276 hg w9 hbox hb; have BK276 := jA.mk (hbox); have GW276 := jA.mk ((by rw [hg]; exact (jC (bb_ HB)) : w.heap.size ≤ gb276)); have GE276 := jA.mk ((by rw [hg]; exact (jC (bb_ HB)) : w.heap.size ≤ gb276)); replace HB := bs_ HB hb; clear hb hbox hg; obtain ⟨hcz10_0, hcz10_1, hcz10_2, hfz10_0, hfz10_1, hfz10_2⟩ := bf3_ BK276) | ((with_reducible refine jF (f := 71) rfl ?_); refine je (some 10) rfl rfl Try.func71 kr_ rfl #[.slice A0_1 l0_1.length c0_1, .slice A0_2 l0_2.length c0_2] rfl mt_ ?_; (with_reducible refine (jV.calls k _ _ l0_1 _ _ l0_2 t277 t278 _ ?side1 ?side2 ?side3 ?side4 A2.out).mono ?_); (case side1 => exact cc_ (Kd.jf HR0_1.out HB.out)); (case side2 => exact HC0_1.out); (case side3 => exact cc_ (Kd.jf HR0_2.out HB.out)); (case side4 => exact HC0_2.out); rintro e w11 ⟨v279, rfl, ho0, hb⟩; refine ⟨_, rfl, ?_⟩; have HO280 := jA.mk (Kd.ji ho0 (jC (bb1_ HB GE276))); replace BK276 := bk_ BK276 hb; replace HB := jA.mk (jX (bb1_ HB GE276) hb); obtain ⟨hcz12_0, hcz12_1, hcz12_2, hfz12_0, hfz12_1, hfz12_2⟩ := bf3_ BK276) | ((with_reducible refine jv (N := 23) rfl ?_); (try (refine vC (by rfl) ?_; dsimp only)); refine Kd.jDQ (Kd.int .u64) _ 22 ?hg (N := 23) ?hd (xs := ([1] : List Int)) (inner := [.int .u64 1]) (ok := fun _ => True) (okp := fun _ => True) ?hr ?hp (fun _ hk => hk) trivial (Below.refl _ _) (Nat.le_refl _) (by simp) ?_; (case hd => rfl); (case hg => rfl); (case hr => exact gs_); (case hp => exact (Reps.one (show Kd.M (Kd.int .u64) _ _ _ 1 [.int .u64 1] from rfl) (Reps.none _ _))); intro v282 w13 ho14 hb hg_ hnew_; clear hg_ hnew_; (first | rw [← Ny281.out] at ho14 | (simp only [Int.reduceToNat] at ho14; rw [← Ny281.out] at ho14)); have HO283 := jA.mk (Kd.ji (Kd.zU ho14 (Kd.R_lt (rR_ HO280))) (jC (bb1_ HB GE276))); replace HO280 := re_ HO280 ho14 hb; replace BK276 := bk_ BK276 hb; replace HB := jA.mk (jX (bb1_ HB GE276) hb); clear hb ho14; obtain ⟨Ao15, co15, eo15⟩ := Kd.jq HO280.out; subst eo15; obtain ⟨Ao16, co16, eo16⟩ := Kd.jq HO283.out; subst eo16) | ((with_reducible refine jv (N := 24) rfl ?_); (try (refine vC (by rfl) ?_; dsimp only)); refine vC (by first | rfl | kernel_rfl) ?_; dsimp only; (with_reducible refine jF (f := 73) rfl ?_); refine je (some 24) rfl rfl Try.func73 kr_ rfl #[.slice Ao15 t277.length co15, .slice Ao16 y281.length co16] rfl mt_ ?_; (with_reducible refine (zx.calls k _ _ t277 _ _ y281 t284 _ ?side1 ?side2 ?side3 ?side4 A5.out).mono ?_); (case side1 => exact cc_ (Kd.jN HO280.out).2.2); (case side2 => exact (Kd.jN HO280.out).2.1); (case side3 => exact cc_ (Kd.jN HO283.out).2.2); (case side4 => exact (Kd.jN HO283.out).2.1); rintro e w17 ⟨rfl, hb⟩; refine ⟨_, rfl, ?_⟩; replace HO280 := ro_ HO280 hb; replace HO283 := ro_ HO283 hb; replace BK276 := bk_ BK276 hb; replace HB := jA.mk (jX (bb1_ HB GE276) hb); obtain ⟨hcz18_0, hcz18_1, hcz18_2, hfz18_0, hfz18_1, hfz18_2⟩ := bf3_ BK276) | (go_at_call 54; (with_reducible refine (zh.calls true _ _ l0_1 _ _ l0_2 t285 _ ?side1 ?side2 ?side3 ?side4 A8.out).mono ?_); (case side1 => exact cc_ (Kd.jf HR0_1.out HB.out)); (case side2 => exact HC0_1.out); (case side3 => exact cc_ (Kd.jf HR0_2.out HB.out)); (case side4 => exact HC0_2.out); rintro e w19 ⟨rfl, hb⟩; replace HO280 := ro_ HO280 hb; replace HO283 := ro_ HO283 hb; replace BK276 := bk_ BK276 hb; replace HB := jA.mk (jX (bb1_ HB GE276) hb)))
     go_ret
     exact ⟨ew_, (bb1_ HB GE276)⟩
    ·
     replace c7 := Bool.eq_false_iff.mpr c7
     subst c7
     have H1 : (some true) = some r := by rw [if_neg (show ¬ (false = true) by decide)] at H; exact H
     clear H
     have H := H1
     clear H1
     obtain rfl := Option.some.inj H
     go_enter Try.func27, Try.ntmps27
     go_wp2_with (first | ((with_reducible refine jv (N := 1) rfl ?_); (try (refine vC (by rfl) ?_; dsimp only)); refine zY ?hg (N := 1) ?hd (cs := #[.bool false, .slice A0_1 l0_1.length c0_1, .slice A0_2 l0_2.length c0_2]) (t := 44) ?hr ?_; (case hd => rfl); (case hg => rfl); (case hr => exact gs_); intro gb276 hg w20 hbox hb; have BK276 := jA.mk (hbox); have GW276 := jA.mk ((by rw [hg]; exact (jC (bb_ HB)) : w.heap.size ≤ gb276)); have GE276 := jA.mk ((by rw [hg]; exact (jC (bb_ HB)) : w.heap.size ≤ gb276)); replace HB := bs_ HB hb; clear hb hbox hg; obtain ⟨hcz21_0, hcz21_1, hcz21_2, hfz21_0, hfz21_1, hfz21_2⟩ := bf3_ BK276) | ((with_reducible refine jF (f := 71) rfl ?_); refine je (some 10) rfl rfl Try.func71 kr_ rfl #[.slice A0_1 l0_1.length c0_1, .slice A0_2 l0_2.length c0_2] rfl mt_ ?_; (with_reducible refine (jV.calls k _ _ l0_1 _ _ l0_2 t277 t278 _ ?side1 ?side2 ?side3 ?side4 A2.out).mono ?_); (case side1 => exact cc_ (Kd.jf HR0_1.out HB.out)); (case side2 => exact HC0_1.out); (case side3 => exact cc_ (Kd.jf HR0_2.out HB.out)); (case side4 => exact HC0_2.out); rintro e w22 ⟨v279, rfl, ho0, hb⟩; refine ⟨_, rfl, ?_⟩; have HO280 := jA.mk (Kd.ji ho0 (jC (bb1_ HB GE276))); replace BK276 := bk_ BK276 hb; replace HB := jA.mk (jX (bb1_ HB GE276) hb); obtain ⟨hcz23_0, hcz23_1, hcz23_2, hfz23_0, hfz23_1, hfz23_2⟩ := bf3_ BK276) | ((with_reducible refine jv (N := 23) rfl ?_); (try (refine vC (by rfl) ?_; dsimp only)); refine Kd.jDQ (Kd.int .u64) _ 22 ?hg (N := 23) ?hd (xs := ([1] : List Int)) (inner := [.int .u64 1]) (ok := fun _ => True) (okp := fun _ => True) ?hr ?hp (fun _ hk => hk) trivial (Below.refl _ _) (Nat.le_refl _) (by simp) ?_; (case hd => rfl); (case hg => rfl); (case hr => exact gs_); (case hp => exact (Reps.one (show Kd.M (Kd.int .u64) _ _ _ 1 [.int .u64 1] from rfl) (Reps.none _ _))); intro v282 w24 ho25 hb hg_ hnew_; clear hg_ hnew_; (first | rw [← Ny281.out] at ho25 | (simp only [Int.reduceToNat] at ho25; rw [← Ny281.out] at ho25)); have HO283 := jA.mk (Kd.ji (Kd.zU ho25 (Kd.R_lt (rR_ HO280))) (jC (bb1_ HB GE276))); replace HO280 := re_ HO280 ho25 hb; replace BK276 := bk_ BK276 hb; replace HB := jA.mk (jX (bb1_ HB GE276) hb); clear hb ho25; obtain ⟨Ao26, co26, eo26⟩ := Kd.jq HO280.out; subst eo26; obtain ⟨Ao27, co27, eo27⟩ := Kd.jq HO283.out; subst eo27) | ((with_reducible refine jv (N := 24) rfl ?_); (try (refine vC (by rfl) ?_; dsimp only)); refine vC (by first | rfl | kernel_rfl) ?_; dsimp only; (with_reducible refine jF (f := 73) rfl ?_); refine je (some 24) rfl rfl Try.func73 kr_ rfl #[.slice Ao26 t277.length co26, .slice Ao27 y281.length co27] rfl mt_ ?_; (with_reducible refine (zx.calls k _ _ t277 _ _ y281 t284 _ ?side1 ?side2 ?side3 ?side4 A5.out).mono ?_); (case side1 => exact cc_ (Kd.jN HO280.out).2.2); (case side2 => exact (Kd.jN HO280.out).2.1); (case side3 => exact cc_ (Kd.jN HO283.out).2.2); (case side4 => exact (Kd.jN HO283.out).2.1); rintro e w28 ⟨rfl, hb⟩; refine ⟨_, rfl, ?_⟩; replace HO280 := ro_ HO280 hb; replace HO283 := ro_ HO283 hb; replace BK276 := bk_ BK276 hb; replace HB := jA.mk (jX (bb1_ HB GE276) hb); obtain ⟨hcz29_0, hcz29_1, hcz29_2, hfz29_0, hfz29_1, hfz29_2⟩ := bf3_ BK276))
     go_ret
     exact ⟨ew_, (bb1_ HB GE276)⟩
   ·
    rw [if_neg c6] at H
    have c6b0 := beq_eq_false_iff_ne.mpr c6
    have c6b1 := bne_iff_ne.mpr c6
    obtain rfl := Option.some.inj H
    go_enter Try.func27, Try.ntmps27
    go_wp2_with (first | ((with_reducible refine jv (N := 1) rfl ?_); (try (refine vC (by rfl) ?_; dsimp only)); refine zY ?hg (N := 1) ?hd (cs := #[.bool a0_0, .slice A0_1 l0_1.length c0_1, .slice A0_2 l0_2.length c0_2]) (t := 44) ?hr ?_; (case hd => rfl); (case hg => rfl); (case hr => exact gs_); intro gb276 hg w30 hbox hb; have BK276 := jA.mk (hbox); have GW276 := jA.mk ((by rw [hg]; exact (jC (bb_ HB)) : w.heap.size ≤ gb276)); have GE276 := jA.mk ((by rw [hg]; exact (jC (bb_ HB)) : w.heap.size ≤ gb276)); replace HB := bs_ HB hb; clear hb hbox hg; obtain ⟨hcz31_0, hcz31_1, hcz31_2, hfz31_0, hfz31_1, hfz31_2⟩ := bf3_ BK276) | ((with_reducible refine jF (f := 71) rfl ?_); refine je (some 10) rfl rfl Try.func71 kr_ rfl #[.slice A0_1 l0_1.length c0_1, .slice A0_2 l0_2.length c0_2] rfl mt_ ?_; (with_reducible refine (jV.calls k _ _ l0_1 _ _ l0_2 t277 t278 _ ?side1 ?side2 ?side3 ?side4 A2.out).mono ?_); (case side1 => exact cc_ (Kd.jf HR0_1.out HB.out)); (case side2 => exact HC0_1.out); (case side3 => exact cc_ (Kd.jf HR0_2.out HB.out)); (case side4 => exact HC0_2.out); rintro e w32 ⟨v279, rfl, ho0, hb⟩; refine ⟨_, rfl, ?_⟩; have HO280 := jA.mk (Kd.ji ho0 (jC (bb1_ HB GE276))); replace BK276 := bk_ BK276 hb; replace HB := jA.mk (jX (bb1_ HB GE276) hb); obtain ⟨hcz33_0, hcz33_1, hcz33_2, hfz33_0, hfz33_1, hfz33_2⟩ := bf3_ BK276) | ((with_reducible refine jv (N := 23) rfl ?_); (try (refine vC (by rfl) ?_; dsimp only)); refine Kd.jDQ (Kd.int .u64) _ 22 ?hg (N := 23) ?hd (xs := ([1] : List Int)) (inner := [.int .u64 1]) (ok := fun _ => True) (okp := fun _ => True) ?hr ?hp (fun _ hk => hk) trivial (Below.refl _ _) (Nat.le_refl _) (by simp) ?_; (case hd => rfl); (case hg => rfl); (case hr => exact gs_); (case hp => exact (Reps.one (show Kd.M (Kd.int .u64) _ _ _ 1 [.int .u64 1] from rfl) (Reps.none _ _))); intro v282 w34 ho35 hb hg_ hnew_; clear hg_ hnew_; (first | rw [← Ny281.out] at ho35 | (simp only [Int.reduceToNat] at ho35; rw [← Ny281.out] at ho35)); have HO283 := jA.mk (Kd.ji (Kd.zU ho35 (Kd.R_lt (rR_ HO280))) (jC (bb1_ HB GE276))); replace HO280 := re_ HO280 ho35 hb; replace BK276 := bk_ BK276 hb; replace HB := jA.mk (jX (bb1_ HB GE276) hb); clear hb ho35; obtain ⟨Ao36, co36, eo36⟩ := Kd.jq HO280.out; subst eo36; obtain ⟨Ao37, co37, eo37⟩ := Kd.jq HO283.out; subst eo37) | ((with_reducible refine jv (N := 24) rfl ?_); (try (refine vC (by rfl) ?_; dsimp only)); refine vC (by first | rfl | kernel_rfl) ?_; dsimp only; (with_reducible refine jF (f := 73) rfl ?_); refine je (some 24) rfl rfl Try.func73 kr_ rfl #[.slice Ao36 t277.length co36, .slice Ao37 y281.length co37] rfl mt_ ?_; (with_reducible refine (zx.calls k _ _ t277 _ _ y281 t284 _ ?side1 ?side2 ?side3 ?side4 A5.out).mono ?_); (case side1 => exact cc_ (Kd.jN HO280.out).2.2); (case side2 => exact (Kd.jN HO280.out).2.1); (case side3 => exact cc_ (Kd.jN HO283.out).2.2); (case side4 => exact (Kd.jN HO283.out).2.1); rintro e w38 ⟨rfl, hb⟩; refine ⟨_, rfl, ?_⟩; replace HO280 := ro_ HO280 hb; replace HO283 := ro_ HO283 hb; replace BK276 := bk_ BK276 hb; replace HB := jA.mk (jX (bb1_ HB GE276) hb)))
    go_ret
    exact ⟨ew_, (bb1_ HB GE276)⟩
  ·
   rw [if_neg c4] at H
   have c4b0 := decide_eq_false c4
   have c4b1 : decide (0 < l0_2.length) = false := decide_eq_false (by omega)
   clear c4
   obtain rfl := Option.some.inj H
   go_enter Try.func27, Try.ntmps27
   go_wp2_with (first | ((with_reducible refine jv (N := 1) rfl ?_); (try (refine vC (by rfl) ?_; dsimp only)); refine zY ?hg (N := 1) ?hd (cs := #[.bool a0_0, .slice A0_1 l0_1.length c0_1, .slice A0_2 l0_2.length c0_2]) (t := 44) ?hr ?_; (case hd => rfl); (case hg => rfl); (case hr => exact gs_); intro gb276 hg w39 hbox hb; have BK276 := jA.mk (hbox); have GW276 := jA.mk ((by rw [hg]; exact (jC (bb_ HB)) : w.heap.size ≤ gb276)); have GE276 := jA.mk ((by rw [hg]; exact (jC (bb_ HB)) : w.heap.size ≤ gb276)); replace HB := bs_ HB hb; clear hb hbox hg; obtain ⟨hcz40_0, hcz40_1, hcz40_2, hfz40_0, hfz40_1, hfz40_2⟩ := bf3_ BK276) | ((with_reducible refine jF (f := 71) rfl ?_); refine je (some 10) rfl rfl Try.func71 kr_ rfl #[.slice A0_1 l0_1.length c0_1, .slice A0_2 l0_2.length c0_2] rfl mt_ ?_; (with_reducible refine (jV.calls k _ _ l0_1 _ _ l0_2 t277 t278 _ ?side1 ?side2 ?side3 ?side4 A2.out).mono ?_); (case side1 => exact cc_ (Kd.jf HR0_1.out HB.out)); (case side2 => exact HC0_1.out); (case side3 => exact cc_ (Kd.jf HR0_2.out HB.out)); (case side4 => exact HC0_2.out); rintro e w41 ⟨v279, rfl, ho0, hb⟩; refine ⟨_, rfl, ?_⟩; have HO280 := jA.mk (Kd.ji ho0 (jC (bb1_ HB GE276))); replace BK276 := bk_ BK276 hb; replace HB := jA.mk (jX (bb1_ HB GE276) hb); obtain ⟨hcz42_0, hcz42_1, hcz42_2, hfz42_0, hfz42_1, hfz42_2⟩ := bf3_ BK276))
   go_ret
   exact ⟨ew_, (bb1_ HB GE276)⟩
 ·
  rw [if_neg c3] at H
  have c3b0 := beq_eq_false_iff_ne.mpr c3
  have c3b1 := bne_iff_ne.mpr c3
  obtain rfl := Option.some.inj H
  go_enter Try.func27, Try.ntmps27
  go_wp2_with (first | ((with_reducible refine jv (N := 1) rfl ?_); (try (refine vC (by rfl) ?_; dsimp only)); refine zY ?hg (N := 1) ?hd (cs := #[.bool a0_0, .slice A0_1 l0_1.length c0_1, .slice A0_2 l0_2.length c0_2]) (t := 44) ?hr ?_; (case hd => rfl); (case hg => rfl); (case hr => exact gs_); intro gb276 hg w43 hbox hb; have BK276 := jA.mk (hbox); have GW276 := jA.mk ((by rw [hg]; exact (jC (bb_ HB)) : w.heap.size ≤ gb276)); have GE276 := jA.mk ((by rw [hg]; exact (jC (bb_ HB)) : w.heap.size ≤ gb276)); replace HB := bs_ HB hb; clear hb hbox hg; obtain ⟨hcz44_0, hcz44_1, hcz44_2, hfz44_0, hfz44_1, hfz44_2⟩ := bf3_ BK276) | ((with_reducible refine jF (f := 71) rfl ?_); refine je (some 10) rfl rfl Try.func71 kr_ rfl #[.slice A0_1 l0_1.length c0_1, .slice A0_2 l0_2.length c0_2] rfl mt_ ?_; (with_reducible refine (jV.calls k _ _ l0_1 _ _ l0_2 t277 t278 _ ?side1 ?side2 ?side3 ?side4 A2.out).mono ?_); (case side1 => exact cc_ (Kd.jf HR0_1.out HB.out)); (case side2 => exact HC0_1.out); (case side3 => exact cc_ (Kd.jf HR0_2.out HB.out)); (case side4 => exact HC0_2.out); rintro e w45 ⟨v279, rfl, ho0, hb⟩; refine ⟨_, rfl, ?_⟩; have HO280 := jA.mk (Kd.ji ho0 (jC (bb1_ HB GE276))); replace BK276 := bk_ BK276 hb; replace HB := jA.mk (jX (bb1_ HB GE276) hb)))
  go_ret
  exact ⟨ew_, (bb1_ HB GE276)⟩

/-! ### vH: function 31 -/
def vH.f (k : Nat) (a0_0 : Bool) (l0_1 : List Int) (l0_2 : List Int) : Option (ByteArray × Int) := (vT.f k a0_0 l0_1 l0_2).bind fun t287 => (if t287 = true then (if a0_0 = true then ((jQ.f k l0_1).bind fun bt288 => ((jQ.f k l0_2).bind fun bt290 => ((some (([1] : List Int) : List Int)).bind fun y292 => (if (strOfNums y292).size + bt288.1.size ≤ 9223372036854775807 then (if ((strOfNums y292) ++ bt288.1).size + bt290.1.size ≤ 9223372036854775807 then (some (((strOfNums y292) ++ bt288.1) ++ bt290.1, 0)) else (none)) else (none))))) else ((jQ.f k l0_1).bind fun bt295 => ((jQ.f k l0_2).bind fun bt297 => ((some (([0] : List Int) : List Int)).bind fun y299 => (if (strOfNums y299).size + bt295.1.size ≤ 9223372036854775807 then (if ((strOfNums y299) ++ bt295.1).size + bt297.1.size ≤ 9223372036854775807 then (some (((strOfNums y299) ++ bt295.1) ++ bt297.1, 0)) else (none)) else (none)))))) else (some ((⟨#[]⟩ : ByteArray), 1)))
theorem vH.mono : ∀ a0 a1 a2 k, LeO (vH.f k a0 a1 a2) (vH.f (k + 1) a0 a1 a2) := by
 intro a0 a1 a2 k
 unfold vH.f
 repeat' first
   | (with_reducible exact jQ.mono _ _)
   | (with_reducible exact vT.mono _ _ _ _)
   | (with_reducible exact LeO.refl _)
   | (with_reducible exact LeO.none _)
   | (with_reducible refine LeO.ite ?_ ?_)
   | (with_reducible refine LeO.bind ?_ (fun _ => ?_))
theorem vH.calls (k : Nat) (a0_0 : Bool) (A0_1 : Option Addr) (c0_1 : Nat) (l0_1 : List Int) (A0_2 : Option Addr) (c0_2 : Nat) (l0_2 : List Int) (r1 : ByteArray) (r2 : Int) (w : World) (hr0_1 : Kd.C (Kd.int .u64) w A0_1 l0_1.length l0_1) (hc0_1 : l0_1.length ≤ c0_1) (hr0_2 : Kd.C (Kd.int .u64) w A0_2 l0_2.length l0_2) (hc0_2 : l0_2.length ≤ c0_2) (h : vH.f k a0_0 l0_1 l0_2 = some (r1, r2)) :
  Calls Try.prog 31 #[.agg #[.bool a0_0, .slice A0_1 l0_1.length c0_1, .slice A0_2 l0_2.length c0_2]] w fun e w' => e = .returned (.tuple #[.string r1, .int .i64 r2]) ∧ Below w.heap.size w w' := by
 have hu44 := Try.underlying44
 have HR0_1 := jA.mk hr0_1
 have HC0_1 := jA.mk hc0_1
 clear hr0_1 hc0_1
 have HR0_2 := jA.mk hr0_2
 have HC0_2 := jA.mk hc0_2
 clear hr0_2 hc0_2
 have HB := jA.mk (Below.refl w.heap.size w)
 have H : ((vT.f k a0_0 l0_1 l0_2).bind fun t287 => (if t287 = true then (if a0_0 = true then ((jQ.f k l0_1).bind fun bt288 => ((jQ.f k l0_2).bind fun bt290 => ((some (([1] : List Int) : List Int)).bind fun y292 => (if (strOfNums y292).size + bt288.1.size ≤ 9223372036854775807 then (if ((strOfNums y292) ++ bt288.1).size + bt290.1.size ≤ 9223372036854775807 then (some (((strOfNums y292) ++ bt288.1) ++ bt290.1, 0)) else (none)) else (none))))) else ((jQ.f k l0_1).bind fun bt295 => ((jQ.f k l0_2).bind fun bt297 => ((some (([0] : List Int) : List Int)).bind fun y299 => (if (strOfNums y299).size + bt295.1.size ≤ 9223372036854775807 then (if ((strOfNums y299) ++ bt295.1).size + bt297.1.size ≤ 9223372036854775807 then (some (((strOfNums y299) ++ bt295.1) ++ bt297.1, 0)) else (none)) else (none)))))) else (some ((⟨#[]⟩ : ByteArray), 1)))) = some (r1, r2) := h
 clear h
 replace H := ob_ H
 obtain ⟨t287, A20, H⟩ := H
 try dsimp only at H
 have A2 := jA.mk A20
 clear A20
 by_cases c3 : t287 = true
 ·
  subst c3
  have H1 : (if a0_0 = true then ((jQ.f k l0_1).bind fun bt288 => ((jQ.f k l0_2).bind fun bt290 => ((some (([1] : List Int) : List Int)).bind fun y292 => (if (strOfNums y292).size + bt288.1.size ≤ 9223372036854775807 then (if ((strOfNums y292) ++ bt288.1).size + bt290.1.size ≤ 9223372036854775807 then (some (((strOfNums y292) ++ bt288.1) ++ bt290.1, 0)) else (none)) else (none))))) else ((jQ.f k l0_1).bind fun bt295 => ((jQ.f k l0_2).bind fun bt297 => ((some (([0] : List Int) : List Int)).bind fun y299 => (if (strOfNums y299).size + bt295.1.size ≤ 9223372036854775807 then (if ((strOfNums y299) ++ bt295.1).size + bt297.1.size ≤ 9223372036854775807 then (some (((strOfNums y299) ++ bt295.1) ++ bt297.1, 0)) else (none)) else (none)))))) = some (r1, r2) := by rw [if_pos rfl] at H; exact H
  clear H
  have H := H1
  clear H1
  by_cases c4 : a0_0 = true
  ·
   subst c4
   have H1 : ((jQ.f k l0_1).bind fun bt288 => ((jQ.f k l0_2).bind fun bt290 => ((some (([1] : List Int) : List Int)).bind fun y292 => (if (strOfNums y292).size + bt288.1.size ≤ 9223372036854775807 then (if ((strOfNums y292) ++ bt288.1).size + bt290.1.size ≤ 9223372036854775807 then (some (((strOfNums y292) ++ bt288.1) ++ bt290.1, 0)) else (none)) else (none))))) = some (r1, r2) := by rw [if_pos rfl] at H; exact H
   clear H
   have H := H1
   clear H1
   replace H := ob_ H
   obtain ⟨⟨t288, t289⟩, A50, H⟩ := H
   try dsimp only at H
   have A5 := jA.mk A50
   clear A50
   replace H := ob_ H
   obtain ⟨⟨t290, t291⟩, A60, H⟩ := H
   try dsimp only at H
   have A6 := jA.mk A60
   clear A60
   obtain ⟨y292, hy292⟩ : ∃ y_ : List Int, y_ = (([1] : List Int)) := ⟨_, rfl⟩
   replace H : (if (strOfNums y292).size + t288.size ≤ 9223372036854775807 then (if ((strOfNums y292) ++ t288).size + t290.size ≤ 9223372036854775807 then (some (((strOfNums y292) ++ t288) ++ t290, 0)) else (none)) else (none)) = some (r1, r2) := by first | (rw [hy292]; with_reducible exact H) | (have H2_ := (Option.bind_some _ _).symm.trans H; rw [hy292]; with_reducible exact H2_) | (with_reducible exact hs_ H) | with_reducible exact H | (rw [hy292]; exact H) | exact H
   have Ny292 := jA.mk hy292
   clear hy292
   by_cases c7 : (strOfNums y292).size + t288.size ≤ 9223372036854775807
   ·
    rw [if_pos c7] at H
    have c7b0 := eq_true c7
    have c7b1 := decide_eq_true c7
    try have c7b2 : (9223372036854775807 < (strOfNums y292).size + t288.size) = False := eq_false (Nat.not_lt.2 c7)
    by_cases c8 : ((strOfNums y292) ++ t288).size + t290.size ≤ 9223372036854775807
    ·
     rw [if_pos c8] at H
     have c8b0 := eq_true c8
     have c8b1 := decide_eq_true c8
     try have c8b2 : (9223372036854775807 < ((strOfNums y292) ++ t288).size + t290.size) = False := eq_false (Nat.not_lt.2 c8)
     simp only [Option.some.injEq, Prod.mk.injEq] at H
     obtain ⟨rfl, rfl⟩ := H
     go_enter Try.func31, Try.ntmps31
     go_wp2_with (first | ((with_reducible refine jv (N := 1) rfl ?_); refine zY ?hg (N := 1) ?hd (cs := #[.bool true, .slice A0_1 l0_1.length c0_1, .slice A0_2 l0_2.length c0_2]) (t := 44) ?hr ?_; (case hd => rfl); (case hg => rfl); (case hr => exact gs_); intro gb286 hg w9 hbox hb; have BK286 := jA.mk (hbox); have GW286 := jA.mk ((by rw [hg]; exact (jC (bb_ HB)) : w.heap.size ≤ gb286)); have GE286 := jA.mk ((by rw [hg]; exact (jC (bb_ HB)) : w.heap.size ≤ gb286)); replace HB := bs_ HB hb; clear hb hbox hg; obtain ⟨hcz10_0, hcz10_1, hcz10_2, hfz10_0, hfz10_1, hfz10_2⟩ := bf3_ BK286) | ((with_reducible refine jF (f := 27) rfl ?_); refine je (some 10) rfl rfl Try.func27 kr_ rfl #[.agg #[.bool true, .slice A0_1 l0_1.length c0_1, .slice A0_2 l0_2.length c0_2]] rfl mt_ ?_; (with_reducible refine (vT.calls k true _ _ l0_1 _ _ l0_2 true _ ?side1 ?side2 ?side3 ?side4 A2.out).mono ?_); (case side1 => exact cc_ (Kd.jf HR0_1.out HB.out)); (case side2 => exact HC0_1.out); (case side3 => exact cc_ (Kd.jf HR0_2.out HB.out)); (case side4 => exact HC0_2.out); rintro e w11 ⟨rfl, hb⟩; refine ⟨_, rfl, ?_⟩; replace BK286 := bk_ BK286 hb; replace HB := jA.mk (jX (bb1_ HB GE286) hb); obtain ⟨hcz12_0, hcz12_1, hcz12_2, hfz12_0, hfz12_1, hfz12_2⟩ := bf3_ BK286) | ((with_reducible refine jF (f := 20) rfl ?_); refine je (some 17) rfl rfl Try.func20 kr_ rfl #[.slice A0_1 l0_1.length c0_1] rfl mt_ ?_; (with_reducible refine (jQ.calls k _ _ l0_1 t288 t289 _ ?side1 ?side2 A5.out).mono ?_); (case side1 => exact cc_ (Kd.jf HR0_1.out HB.out)); (case side2 => exact HC0_1.out); rintro e w13 ⟨rfl, hb⟩; refine ⟨_, rfl, ?_⟩; replace BK286 := bk_ BK286 hb; replace HB := jA.mk (jX (bb1_ HB GE286) hb); obtain ⟨hcz14_0, hcz14_1, hcz14_2, hfz14_0, hfz14_1, hfz14_2⟩ := bf3_ BK286) | ((with_reducible refine jF (f := 20) rfl ?_); refine je (some 23) rfl rfl Try.func20 kr_ rfl #[.slice A0_2 l0_2.length c0_2] rfl mt_ ?_; (with_reducible refine (jQ.calls k _ _ l0_2 t290 t291 _ ?side1 ?side2 A6.out).mono ?_); (case side1 => exact cc_ (Kd.jf HR0_2.out HB.out)); (case side2 => exact HC0_2.out); rintro e w15 ⟨rfl, hb⟩; refine ⟨_, rfl, ?_⟩; replace BK286 := bk_ BK286 hb; replace HB := jA.mk (jX (bb1_ HB GE286) hb)) | ((with_reducible refine jv (N := 27) rfl ?_); refine Kd.jDQ (Kd.int .u8) _ 5 ?hg (N := 27) ?hd (xs := ([1] : List Int)) (inner := [.int .u8 1]) (ok := fun _ => True) (okp := fun _ => True) ?hr ?hp (fun _ hk => hk) trivial (Below.refl _ _) (Nat.le_refl _) (by simp) ?_; (case hd => rfl); (case hg => rfl); (case hr => exact gs_); (case hp => exact (Reps.one (show Kd.M (Kd.int .u8) _ _ _ 1 [.int .u8 1] from rfl) (Reps.none _ _))); intro v293 w16 ho17 hb hg_ hnew_; clear hg_ hnew_; (first | rw [← Ny292.out] at ho17 | (simp only [Int.reduceToNat] at ho17; rw [← Ny292.out] at ho17)); have HO294 := jA.mk (Kd.ji ho17 (jC (bb1_ HB GE286))); replace BK286 := bk_ BK286 hb; replace HB := jA.mk (jX (bb1_ HB GE286) hb); clear hb ho17; have hcv18 := qo (P := Try.prog) Try.underlying60 Try.underlying5 Try.underlying9 (Kd.ql HO294.out)))
     go_ret2
     exact ⟨ew_, (bb1_ HB GE286)⟩
    ·
     rw [if_neg c8] at H
     exact absurd H (by simp)
   ·
    rw [if_neg c7] at H
    exact absurd H (by simp)
  ·
   replace c4 := Bool.eq_false_iff.mpr c4
   subst c4
   have H1 : ((jQ.f k l0_1).bind fun bt295 => ((jQ.f k l0_2).bind fun bt297 => ((some (([0] : List Int) : List Int)).bind fun y299 => (if (strOfNums y299).size + bt295.1.size ≤ 9223372036854775807 then (if ((strOfNums y299) ++ bt295.1).size + bt297.1.size ≤ 9223372036854775807 then (some (((strOfNums y299) ++ bt295.1) ++ bt297.1, 0)) else (none)) else (none))))) = some (r1, r2) := by rw [if_neg (show ¬ (false = true) by decide)] at H; exact H
   clear H
   have H := H1
   clear H1
   replace H := ob_ H
   obtain ⟨⟨t295, t296⟩, A190, H⟩ := H
   try dsimp only at H
   have A19 := jA.mk A190
   clear A190
   replace H := ob_ H
   obtain ⟨⟨t297, t298⟩, A200, H⟩ := H
   try dsimp only at H
   have A20 := jA.mk A200
   clear A200
   obtain ⟨y299, hy299⟩ : ∃ y_ : List Int, y_ = (([0] : List Int)) := ⟨_, rfl⟩
   replace H : (if (strOfNums y299).size + t295.size ≤ 9223372036854775807 then (if ((strOfNums y299) ++ t295).size + t297.size ≤ 9223372036854775807 then (some (((strOfNums y299) ++ t295) ++ t297, 0)) else (none)) else (none)) = some (r1, r2) := by first | (rw [hy299]; with_reducible exact H) | (have H2_ := (Option.bind_some _ _).symm.trans H; rw [hy299]; with_reducible exact H2_) | (with_reducible exact hs_ H) | with_reducible exact H | (rw [hy299]; exact H) | exact H
   have Ny299 := jA.mk hy299
   clear hy299
   by_cases c21 : (strOfNums y299).size + t295.size ≤ 9223372036854775807
   ·
    rw [if_pos c21] at H
    have c21b0 := eq_true c21
    have c21b1 := decide_eq_true c21
    try have c21b2 : (9223372036854775807 < (strOfNums y299).size + t295.size) = False := eq_false (Nat.not_lt.2 c21)
    by_cases c22 : ((strOfNums y299) ++ t295).size + t297.size ≤ 9223372036854775807
    ·
     rw [if_pos c22] at H
     have c22b0 := eq_true c22
     have c22b1 := decide_eq_true c22
     try have c22b2 : (9223372036854775807 < ((strOfNums y299) ++ t295).size + t297.size) = False := eq_false (Nat.not_lt.2 c22)
     simp only [Option.some.injEq, Prod.mk.injEq] at H
     obtain ⟨rfl, rfl⟩ := H
     go_enter Try.func31, Try.ntmps31
     go_wp2_with (first | ((with_reducible refine jv (N := 1) rfl ?_); refine zY ?hg (N := 1) ?hd (cs := #[.bool false, .slice A0_1 l0_1.length c0_1, .slice A0_2 l0_2.length c0_2]) (t := 44) ?hr ?_; (case hd => rfl); (case hg => rfl); (case hr => exact gs_); intro gb286 hg w23 hbox hb; have BK286 := jA.mk (hbox); have GW286 := jA.mk ((by rw [hg]; exact (jC (bb_ HB)) : w.heap.size ≤ gb286)); have GE286 := jA.mk ((by rw [hg]; exact (jC (bb_ HB)) : w.heap.size ≤ gb286)); replace HB := bs_ HB hb; clear hb hbox hg; obtain ⟨hcz24_0, hcz24_1, hcz24_2, hfz24_0, hfz24_1, hfz24_2⟩ := bf3_ BK286) | ((with_reducible refine jF (f := 27) rfl ?_); refine je (some 10) rfl rfl Try.func27 kr_ rfl #[.agg #[.bool false, .slice A0_1 l0_1.length c0_1, .slice A0_2 l0_2.length c0_2]] rfl mt_ ?_; (with_reducible refine (vT.calls k false _ _ l0_1 _ _ l0_2 true _ ?side1 ?side2 ?side3 ?side4 A2.out).mono ?_); (case side1 => exact cc_ (Kd.jf HR0_1.out HB.out)); (case side2 => exact HC0_1.out); (case side3 => exact cc_ (Kd.jf HR0_2.out HB.out)); (case side4 => exact HC0_2.out); rintro e w25 ⟨rfl, hb⟩; refine ⟨_, rfl, ?_⟩; replace BK286 := bk_ BK286 hb; replace HB := jA.mk (jX (bb1_ HB GE286) hb); obtain ⟨hcz26_0, hcz26_1, hcz26_2, hfz26_0, hfz26_1, hfz26_2⟩ := bf3_ BK286) | ((with_reducible refine jF (f := 20) rfl ?_); refine je (some 17) rfl rfl Try.func20 kr_ rfl #[.slice A0_1 l0_1.length c0_1] rfl mt_ ?_; (with_reducible refine (jQ.calls k _ _ l0_1 t295 t296 _ ?side1 ?side2 A19.out).mono ?_); (case side1 => exact cc_ (Kd.jf HR0_1.out HB.out)); (case side2 => exact HC0_1.out); rintro e w27 ⟨rfl, hb⟩; refine ⟨_, rfl, ?_⟩; replace BK286 := bk_ BK286 hb; replace HB := jA.mk (jX (bb1_ HB GE286) hb); obtain ⟨hcz28_0, hcz28_1, hcz28_2, hfz28_0, hfz28_1, hfz28_2⟩ := bf3_ BK286) | ((with_reducible refine jF (f := 20) rfl ?_); refine je (some 23) rfl rfl Try.func20 kr_ rfl #[.slice A0_2 l0_2.length c0_2] rfl mt_ ?_; (with_reducible refine (jQ.calls k _ _ l0_2 t297 t298 _ ?side1 ?side2 A20.out).mono ?_); (case side1 => exact cc_ (Kd.jf HR0_2.out HB.out)); (case side2 => exact HC0_2.out); rintro e w29 ⟨rfl, hb⟩; refine ⟨_, rfl, ?_⟩; replace BK286 := bk_ BK286 hb; replace HB := jA.mk (jX (bb1_ HB GE286) hb)) | ((with_reducible refine jv (N := 27) rfl ?_); refine Kd.jDQ (Kd.int .u8) _ 5 ?hg (N := 27) ?hd (xs := ([0] : List Int)) (inner := [.int .u8 0]) (ok := fun _ => True) (okp := fun _ => True) ?hr ?hp (fun _ hk => hk) trivial (Below.refl _ _) (Nat.le_refl _) (by simp) ?_; (case hd => rfl); (case hg => rfl); (case hr => exact gs_); (case hp => exact (Reps.one (show Kd.M (Kd.int .u8) _ _ _ 0 [.int .u8 0] from rfl) (Reps.none _ _))); intro v300 w30 ho31 hb hg_ hnew_; clear hg_ hnew_; (first | rw [← Ny299.out] at ho31 | (simp only [Int.reduceToNat] at ho31; rw [← Ny299.out] at ho31)); have HO301 := jA.mk (Kd.ji ho31 (jC (bb1_ HB GE286))); replace BK286 := bk_ BK286 hb; replace HB := jA.mk (jX (bb1_ HB GE286) hb); clear hb ho31; have hcv32 := qo (P := Try.prog) Try.underlying60 Try.underlying5 Try.underlying9 (Kd.ql HO301.out)))
     go_ret2
     exact ⟨ew_, (bb1_ HB GE286)⟩
    ·
     rw [if_neg c22] at H
     exact absurd H (by simp)
   ·
    rw [if_neg c21] at H
    exact absurd H (by simp)
 ·
  replace c3 := Bool.eq_false_iff.mpr c3
  subst c3
  have H1 : (some ((⟨#[]⟩ : ByteArray), 1)) = some (r1, r2) := by rw [if_neg (show ¬ (false = true) by decide)] at H; exact H
  clear H
  have H := H1
  clear H1
  simp only [Option.some.injEq, Prod.mk.injEq] at H
  obtain ⟨rfl, rfl⟩ := H
  go_enter Try.func31, Try.ntmps31
  go_wp2_with (first | ((with_reducible refine jv (N := 1) rfl ?_); refine zY ?hg (N := 1) ?hd (cs := #[.bool a0_0, .slice A0_1 l0_1.length c0_1, .slice A0_2 l0_2.length c0_2]) (t := 44) ?hr ?_; (case hd => rfl); (case hg => rfl); (case hr => exact gs_); intro gb286 hg w33 hbox hb; have BK286 := jA.mk (hbox); have GW286 := jA.mk ((by rw [hg]; exact (jC (bb_ HB)) : w.heap.size ≤ gb286)); have GE286 := jA.mk ((by rw [hg]; exact (jC (bb_ HB)) : w.heap.size ≤ gb286)); replace HB := bs_ HB hb; clear hb hbox hg; obtain ⟨hcz34_0, hcz34_1, hcz34_2, hfz34_0, hfz34_1, hfz34_2⟩ := bf3_ BK286) | ((with_reducible refine jF (f := 27) rfl ?_); refine je (some 10) rfl rfl Try.func27 kr_ rfl #[.agg #[.bool a0_0, .slice A0_1 l0_1.length c0_1, .slice A0_2 l0_2.length c0_2]] rfl mt_ ?_; (with_reducible refine (vT.calls k a0_0 _ _ l0_1 _ _ l0_2 false _ ?side1 ?side2 ?side3 ?side4 A2.out).mono ?_); (case side1 => exact cc_ (Kd.jf HR0_1.out HB.out)); (case side2 => exact HC0_1.out); (case side3 => exact cc_ (Kd.jf HR0_2.out HB.out)); (case side4 => exact HC0_2.out); rintro e w35 ⟨rfl, hb⟩; refine ⟨_, rfl, ?_⟩; replace BK286 := bk_ BK286 hb; replace HB := jA.mk (jX (bb1_ HB GE286) hb)))
  go_ret2
  exact ⟨ew_, (bb1_ HB GE286)⟩

-- NOT PRINTED: function 83 (octet_GetRat_1)

/-! ### octet_reader_ratio: function 84 -/

namespace OctRat
open Oct
def rat_ (k : Nat) (s : ByteArray) : Option (Int ⊕ (Bool × List Int × List Int × ByteArray)) :=
 if s.size < 1 then some (.inl 60) else if 1 < (bt s 0).toNat then some (.inl 62) else
 (OctNat.nat_ k (s.extract 1 s.size)).bind fun v => match v with
  | .inl c => some (.inl c)
  | .inr (a, t) => (OctNat.nat_ k t).bind fun v2 => match v2 with
   | .inl c => some (.inl c)
   | .inr (b, u) => (vT.f k ((bt s 0) == 1) a b).bind fun m => some (if m = true then .inr ((bt s 0) == 1, a, b, u) else .inl 62)
theorem jGf (s : ByteArray) (k : Nat) : LeO (rat_ k s) (rat_ (k + 1) s) := by
 unfold rat_
 refine LeO.ite (LeO.refl _) (LeO.ite (LeO.refl _) (LeO.bind (OctNat.jCc _ _) fun v => ?_))
 cases v with
 | inl c => exact LeO.refl _
 | inr p =>
  refine LeO.bind (OctNat.jCc _ _) fun v2 => ?_
  cases v2 with
  | inl c => exact LeO.refl _
  | inr q => exact LeO.bind (vT.mono _ _ _ _) fun _ => LeO.refl _
def jIY (g : Nat) (w : World) (v : Int ⊕ (Bool × List Int × List Int × ByteArray)) (e : Ending) (w' : World) : Prop := match v with
 | .inl c => e = .panicked (pan c) ∧ Below g w w'
 | .inr (n, a, b, t) => ∃ u1 u2 : Value, e = .returned (.agg #[.bool n, u1, u2]) ∧ Below g w w' ∧ w'.heap[g]? = some (.cells #[.string t] 86 (0, 0)) ∧ Kd.R (Kd.int .u64) 22 w' w.heap.size (fun k_ => some k_ ≠ (u2 : Value).ownBlock) u1 a ∧ Kd.R (Kd.int .u64) 22 w' w.heap.size (fun k_ => some k_ ≠ (u1 : Value).ownBlock) u2 b
theorem jGr {k : Nat} {s t : ByteArray} {l : List Int} (h : OctNat.nat_ k s = some (.inr (l, t))) : t.size ≤ s.size := by
 unfold OctNat.nat_ at h
 cases hn : num s with
 | inl c => rw [hn] at h; cases h
 | inr p =>
  obtain ⟨n, x⟩ := p
  have hx := jAc hn
  rw [hn] at h
  simp only at h
  split at h
  ·
   cases h
  ·
   split at h
   ·
    cases h
   ·
    obtain ⟨r, _, h⟩ := Option.bind_eq_some_iff.mp h
    obtain ⟨b, _, h⟩ := Option.bind_eq_some_iff.mp h
    cases b with
    | false => cases h
    | true => cases h; rw [ByteArray.size_extract]; omega
theorem jIz (k g : Nat) (s : ByteArray) (w : World) (v : Int ⊕ (Bool × List Int × List Int × ByteArray)) (hb : w.heap[g]? = some (.cells #[.string s] 86 (0, 0))) (hz : s.size ≤ 140737488351232) (h : rat_ k s = some v) :
  Calls Try.prog 84 #[.pointer (some ⟨g, 0, none⟩)] w (jIY g w v) := by
 have HB := jA.mk (jg hb (.cells #[.bool false, .slice none 0 0, .slice none 0 0] 44))
 have HA := jA.mk (vY w (.cells #[.bool false, .slice none 0 0, .slice none 0 0] 44))
 have HG := jA.mk (qN hb)
 have HW := jA.mk (jP (Below.refl w.heap.size w) (.cells #[.bool false, .slice none 0 0, .slice none 0 0] 44))
 have HS := jA.mk (show (w.alloc (.cells #[.bool false, .slice none 0 0, .slice none 0 0] 44)).heap.size = w.heap.size + 1 from Array.size_push _)
 clear hb
 unfold rat_ at h
 by_cases h1 : s.size < 1
 ·
  rw [if_pos h1] at h
  cases h
  go_enter Try.func84, Try.ntmps84
  go_wp2_with fail
  refine (jBd g 1 s _ HB.out (by omega) h1).mono ?_
  rintro e w1 ⟨rfl, rfl⟩
  exact ⟨rfl, rfl, HW.out.mono (Nat.le_of_lt HG.out)⟩
 ·
  rw [if_neg h1] at h
  obtain ⟨b, hk⟩ := Int.eq_ofNat_of_zero_le (jAe s 0).1
  have hkb : b ≤ 255 := by have := (jAe s 0).2; omega
  have hx1 : (s.extract 0 1).size = 1 := by rw [ByteArray.size_extract]; omega
  have hget : ∀ h : 0 < (s.extract 0 1).size, (((s.extract 0 1)[0]'h).toNat : Int) = (b : Int) := fun h => by
   rw [ByteArray.getElem_extract, ← hk]; exact jIQ s 0 (by simp; omega)
  rw [hk] at h
  simp only [Int.toNat_natCast] at h
  have hgs : w.heap.size ≠ g := fun e => by have := HG.out; omega
  have HB1 := jA.mk (jc (cs' := #[.string (s.extract 1 s.size)]) HB.out 0 (.string (s.extract 1 s.size)) rfl)
  have HA1 := jA.mk (jM (p := ⟨g, 0, none⟩) HA.out hgs (.string (s.extract 1 s.size)))
  have HW1 := jA.mk ((HW.out.mono (Nat.le_of_lt HG.out)).setCell (p := ⟨g, 0, none⟩) (Nat.le_refl g) (.string (s.extract 1 s.size)))
  have HS1 := jA.mk (show ((w.alloc (.cells #[.bool false, .slice none 0 0, .slice none 0 0] 44)).setCell ⟨g, 0, none⟩ (.string (s.extract 1 s.size))).heap.size = w.heap.size + 1 from by rw [← HS.out]; simp [World.setCell])
  have TK := jA.mk (jAF g 1 s _ HB.out (by omega) (by omega))
  have HX := jA.mk (show (s.extract 1 s.size).size ≤ 140737488351232 by rw [ByteArray.size_extract]; omega)
  clear hk HA HW HS
  by_cases h2 : 1 < b
  ·
   rw [if_pos h2] at h
   cases h
   have t2 : decide ((b : Int) ≤ 1) = false := decide_eq_false (by omega)
   have t3 : decide (b ≤ 1) = false := decide_eq_false (by omega)
   go_enter Try.func84, Try.ntmps84
   go_wp2_with fail
   refine TK.out.mono ?_
   rintro e w1 ⟨rfl, rfl⟩
   go_wp2_with fail
   refine (jBE _).mono ?_
   rintro e w1 ⟨rfl, rfl⟩
   exact ⟨rfl, rfl, HW1.out⟩
  ·
   rw [if_neg h2] at h
   have t2 : decide ((b : Int) ≤ 1) = true := decide_eq_true (by omega)
   have t3 : decide (b ≤ 1) = true := decide_eq_true (by omega)
   obtain ⟨v1, hv1, h⟩ := Option.bind_eq_some_iff.mp h
   obtain ⟨nb, t4⟩ : ∃ nb : Bool, ((b : Int) == 1) = nb := ⟨_, rfl⟩
   have t5 : (b == 1) = nb := by
    rw [← t4]
    cases hb1 : (b == 1) with
    | true => rw [beq_iff_eq.1 hb1]; rfl
    | false => have := beq_eq_false_iff_ne.1 hb1; exact (beq_eq_false_iff_ne.2 (by omega)).symm
   rw [t4] at h
   have HH := jA.mk h
   have HV1 := jA.mk hv1
   clear h hv1 HB
   go_enter Try.func84, Try.ntmps84
   go_wp2_with fail
   refine TK.out.mono ?_
   rintro e w1 ⟨rfl, rfl⟩
   clear TK
   generalize (w.alloc (.cells #[.bool false, .slice none 0 0, .slice none 0 0] 44)).setCell ⟨g, 0, none⟩ (.string (s.extract 1 s.size)) = W at HB1 HA1 HW1 HS1 ⊢
   go_wp2_with fail
   refine (qw _).mono ?_
   rintro e w1 ⟨rfl, rfl⟩
   have q0 := (jE HA1.out 0).trans (show _ = some (.bool false) from rfl)
   have f0 := jL HA1.out 0
   have HB2 := jA.mk (jM (p := ⟨w.heap.size, 0, none⟩) HB1.out (by show g ≠ w.heap.size; omega) (.bool nb))
   have HA2 := jA.mk (jc (cs' := #[.bool nb, .slice none 0 0, .slice none 0 0]) HA1.out 0 (.bool nb) rfl)
   have HW2 := jA.mk (HW1.out.setCell (p := ⟨w.heap.size, 0, none⟩) (Nat.le_of_lt HG.out) (.bool nb))
   have HS2 := jA.mk (show (W.setCell ⟨w.heap.size, 0, none⟩ (.bool nb)).heap.size = w.heap.size + 1 from by rw [← HS1.out]; simp [World.setCell])
   clear HB1 HA1 HW1 HS1
   go_wp2_with fail
   have NC := jA.mk (OctNat.jAw k g (s.extract 1 s.size) _ v1 HB2.out HX.out HV1.out)
   generalize W.setCell ⟨w.heap.size, 0, none⟩ (.bool nb) = W2 at HB2 HA2 HW2 HS2 NC ⊢
   cases v1 with
   | inl c =>
    have hh := HH.out
    cases hh
    refine NC.out.mono ?_
    rintro e w1 ⟨rfl, hb⟩
    exact ⟨rfl, rfl, HW2.out.trans hb.1⟩
   | inr p =>
    obtain ⟨a, t⟩ := p
    have hh := HH.out
    clear HH
    simp only at hh
    obtain ⟨v2, hv2, hh⟩ := Option.bind_eq_some_iff.mp hh
    have HH := jA.mk hh
    have HV2 := jA.mk hv2
    have HTZ := jA.mk (Nat.le_trans (jGr HV1.out) HX.out)
    clear hh hv2 HV1
    refine NC.out.mono ?_
    rintro e w4 ⟨u, rfl, hb4, h4, hr⟩
    obtain ⟨A1, c1, rfl⟩ := Kd.jq hr
    have HA3 := jA.mk (hb4.2.blk HA2.out hgs (by simp))
    have HW3 := jA.mk (HW2.out.trans hb4.1)
    have HR3 := jA.mk (Kd.ji (base' := w.heap.size) (Kd.jw (ok' := fun k_ => w.heap.size + 1 ≤ k_) (Kd.zR hr) (fun k_ hk_ => by have := hk_.2.1; have := HS2.out; omega)) (by have := HS2.out; omega))
    have HZ3 := jA.mk (show w.heap.size + 1 ≤ w4.heap.size by have := hb4.1.size; have := HS2.out; omega)
    have q1 := (jE HA3.out 1).trans (show _ = some (.slice none 0 0) from rfl)
    have f1 := jL HA3.out 1
    have HB5 := jA.mk (jM (p := ⟨w.heap.size, 1, none⟩) h4 (by show g ≠ w.heap.size; omega) (.slice A1 a.length c1))
    have HA5 := jA.mk (jc (cs' := #[.bool nb, .slice A1 a.length c1, .slice none 0 0]) HA3.out 1 (.slice A1 a.length c1) rfl)
    have HW5 := jA.mk (HW3.out.setCell (p := ⟨w.heap.size, 1, none⟩) (Nat.le_of_lt HG.out) (.slice A1 a.length c1))
    have HR5 := jA.mk (Oct.jDR (p := ⟨w.heap.size, 1, none⟩) HR3.out (by show w.heap.size < _; omega) (.slice A1 a.length c1))
    have HZ5 := jA.mk (show w.heap.size + 1 ≤ (w4.setCell ⟨w.heap.size, 1, none⟩ (.slice A1 a.length c1)).heap.size by have := HZ3.out; simpa [World.setCell] using this)
    clear hr hb4 h4 HA2 HB2 HW2 HS2 HA3 HW3 HR3 HZ3 NC
    go_wp2_with fail
    have NC := jA.mk (OctNat.jAw k g t _ v2 HB5.out HTZ.out HV2.out)
    generalize w4.setCell ⟨w.heap.size, 1, none⟩ (.slice A1 a.length c1) = W5 at HB5 HA5 HW5 HR5 HZ5 NC ⊢
    cases v2 with
    | inl c =>
     have hh := HH.out
     cases hh
     refine NC.out.mono ?_
     rintro e w1 ⟨rfl, hb⟩
     exact ⟨rfl, rfl, HW5.out.trans hb.1⟩
    | inr p =>
     obtain ⟨b2, t2⟩ := p
     have hh := HH.out
     clear HH HV2
     simp only at hh
     obtain ⟨m, hm, hh⟩ := Option.bind_eq_some_iff.mp hh
     have HH := jA.mk hh
     have HM := jA.mk hm
     clear hh hm
     refine NC.out.mono ?_
     rintro e w6 ⟨u, rfl, hb6, h6, hr⟩
     obtain ⟨A2, c2, rfl⟩ := Kd.jq hr
     have HA6 := jA.mk (hb6.2.blk HA5.out hgs (by simp))
     have HW6 := jA.mk (HW5.out.trans hb6.1)
     have HR6 := jA.mk (Kd.jJt (Kd.jw (ok' := fun k_ => w.heap.size + 1 ≤ k_ ∧ k_ < W5.heap.size) (Kd.zR HR5.out) (fun k_ hk_ => ⟨hk_.1, hk_.2.2.1⟩)) hb6.2 (fun k_ hk_ => by have := hk_.1; have := HG.out; omega))
     have HQ6 := jA.mk (Kd.ji (base' := w.heap.size) (Kd.jw (ok' := fun k_ => W5.heap.size ≤ k_) (Kd.zR hr) (fun k_ hk_ => hk_.2.1)) (by have := HZ5.out; omega))
     have HS6 := jA.mk hb6.1.size
     have q2 := (jE HA6.out 2).trans (show _ = some (.slice none 0 0) from rfl)
     have f2 := jL HA6.out 2
     have HB7 := jA.mk (jM (p := ⟨w.heap.size, 2, none⟩) h6 (by show g ≠ w.heap.size; omega) (.slice A2 b2.length c2))
     have HA7 := jA.mk (jc (cs' := #[.bool nb, .slice A1 a.length c1, .slice A2 b2.length c2]) HA6.out 2 (.slice A2 b2.length c2) rfl)
     have HW7 := jA.mk (HW6.out.setCell (p := ⟨w.heap.size, 2, none⟩) (Nat.le_of_lt HG.out) (.slice A2 b2.length c2))
     have HR7 := jA.mk (Kd.zl (p := ⟨w.heap.size, 2, none⟩) HR6.out (fun k_ hk_ => by have := hk_.1; show k_ ≠ w.heap.size; omega) (.slice A2 b2.length c2))
     have HQ7 := jA.mk (Kd.zl (p := ⟨w.heap.size, 2, none⟩) HQ6.out (fun k_ hk_ => by have := HZ5.out; show k_ ≠ w.heap.size; omega) (.slice A2 b2.length c2))
     have HZ7 := jA.mk (show w.heap.size + 1 ≤ (w6.setCell ⟨w.heap.size, 2, none⟩ (.slice A2 b2.length c2)).heap.size by have := HS6.out; have := HZ5.out; simp [World.setCell]; omega)
     clear hr hb6 h6 HA5 HB5 HW5 HR5 HA6 HW6 HR6 HQ6 HS6 NC
     have q3 := (jE HA7.out 0).trans (show _ = some (.bool nb) from rfl)
     have q4 := (jE HA7.out 1).trans (show _ = some (.slice A1 a.length c1) from rfl)
     have q5 := (jE HA7.out 2).trans (show _ = some (.slice A2 b2.length c2) from rfl)
     go_wp2_with fail
     have RC1 := jA.mk (Kd.jN HR7.out)
     have RC2 := jA.mk (Kd.jN HQ7.out)
     clear q0 f0 q1 f1 q2 f2 q3 q4 q5
     generalize w6.setCell ⟨w.heap.size, 2, none⟩ (.slice A2 b2.length c2) = W7 at HB7 HA7 HW7 HR7 HQ7 HZ7 RC1 RC2 ⊢
     refine (vT.calls k nb A1 c1 a A2 c2 b2 m W7 RC1.out.2.2 RC1.out.2.1 RC2.out.2.2 RC2.out.2.1 HM.out).mono ?_
     rintro e w8 ⟨rfl, hb8⟩
     have HA8 := jA.mk (vE HA7.out hb8)
     have HB8 := jA.mk (vE HB7.out hb8)
     have HW8 := jA.mk (HW7.out.trans (hb8.mono (by have := HZ7.out; have := HG.out; omega)))
     have HR8 := jA.mk (Kd.qd HR7.out hb8)
     have HQ8 := jA.mk (Kd.qd HQ7.out hb8)
     clear hb8 HB7 HA7 HW7 HR7 HQ7 RC1 RC2 HM
     go_wp2_with fail
     cases m with
     | false =>
      have hh := HH.out
      cases hh
      refine (jBE _).mono ?_
      rintro e w9 ⟨rfl, rfl⟩
      exact ⟨rfl, rfl, HW8.out⟩
     | true =>
      have hh := HH.out
      cases hh
      refine (qw _).mono ?_
      rintro e w9 ⟨rfl, rfl⟩
      have q3 := (jE HA8.out 0).trans (show _ = some (.bool nb) from rfl)
      have q4 := (jE HA8.out 1).trans (show _ = some (.slice A1 a.length c1) from rfl)
      have q5 := (jE HA8.out 2).trans (show _ = some (.slice A2 b2.length c2) from rfl)
      have f3 := jL HA8.out 0
      have f4 := jL HA8.out 1
      have f5 := jL HA8.out 2
      go_wp2
      refine bodyPost_ret (results_cell_row rfl _ _ w.heap.size 44 #[.bool nb, .slice A1 a.length c1, .slice A2 b2.length c2] (0, 0) _ rfl (by refine jc (cs := #[.bool nb, .slice A1 a.length c1, .slice A2 b2.length c2]) ?_ 2 _ rs_; refine jc (cs := #[.bool nb, .slice A1 a.length c1, .slice A2 b2.length c2]) ?_ 1 _ rs_; refine jc (cs := #[.bool nb, .slice A1 a.length c1, .slice A2 b2.length c2]) ?_ 0 _ rs_; exact HA8.out) Try.underlying44 rfl kr_) rfl ?_
      refine ⟨_, _, rfl, ((HW8.out.setCell (p := ⟨w.heap.size, 0, none⟩) (Nat.le_of_lt HG.out) _).setCell (p := ⟨w.heap.size, 1, none⟩) (Nat.le_of_lt HG.out) _).setCell (p := ⟨w.heap.size, 2, none⟩) (Nat.le_of_lt HG.out) _, ?_, ?_, ?_⟩
      ·
       exact jM (p := ⟨w.heap.size, 2, none⟩) (jM (p := ⟨w.heap.size, 1, none⟩) (jM (p := ⟨w.heap.size, 0, none⟩) HB8.out hgs.symm _) hgs.symm _) hgs.symm _
      ·
       refine Kd.jw (Kd.zl (p := ⟨w.heap.size, 2, none⟩) (Kd.zl (p := ⟨w.heap.size, 1, none⟩) (Kd.zl (p := ⟨w.heap.size, 0, none⟩) HR8.out (fun k_ hk_ => by have := hk_.1; show k_ ≠ w.heap.size; omega) _) (fun k_ hk_ => by have := hk_.1; show k_ ≠ w.heap.size; omega) _) (fun k_ hk_ => by have := hk_.1; show k_ ≠ w.heap.size; omega) _) (fun k_ hk_ e_ => ?_)
       have h1_ := HQ8.out.1 k_ e_.symm
       have h2_ := hk_.2
       omega
      ·
       refine Kd.jw (Kd.zl (p := ⟨w.heap.size, 2, none⟩) (Kd.zl (p := ⟨w.heap.size, 1, none⟩) (Kd.zl (p := ⟨w.heap.size, 0, none⟩) HQ8.out (fun k_ hk_ => by have := HZ5.out; show k_ ≠ w.heap.size; omega) _) (fun k_ hk_ => by have := HZ5.out; show k_ ≠ w.heap.size; omega) _) (fun k_ hk_ => by have := HZ5.out; show k_ ≠ w.heap.size; omega) _) (fun k_ hk_ e_ => ?_)
       have h1_ := (HR8.out.1 k_ e_.symm).2
       omega
end OctRat

/-! ### jm: function 44 -/
namespace jm
open Oct
set_option maxHeartbeats 4000000 in
theorem jIp (g q : Nat) (x0 x1 x2 y : Value) (w : World) (hp : w.heap[g]? = some (.cells #[x0, x1, x2] 44 (0, 0))) (hq : w.heap[q]? = some (.cells #[y] 9 (0, 0))) (hne : q ≠ g) :
  Calls Try.prog 83 #[.pointer (some ⟨g, 0, none⟩), .pointer (some ⟨q, 0, none⟩)] w fun e w' => e = .returned (.tuple #[]) ∧ w' = (((w.setCell ⟨g, 0, none⟩ (.bool false)).setCell ⟨g, 1, none⟩ (.slice none 0 0)).setCell ⟨g, 2, none⟩ (.slice none 0 0)).setCell ⟨q, 0, none⟩ (.string { data := #[] }) := by
 have z0 := (jE hp 0).trans (show _ = some x0 from rfl)
 have z1 := (jE hp 1).trans (show _ = some x1 from rfl)
 have z2 := (jE hp 2).trans (show _ = some x2 from rfl)
 have f0 := jL hp 0
 have f1 := jL hp 1
 have f2 := jL hp 2
 have hq' := (jM (p := ⟨g, 2, none⟩) (jM (p := ⟨g, 1, none⟩) (jM (p := ⟨g, 0, none⟩) hq hne (.bool false)) hne (.slice none 0 0)) hne (.slice none 0 0))
 have y0 := (jE hq' 0).trans (show _ = some y from rfl)
 have g0 := jL hq' 0
 clear hp hq hq'
 go_enter Try.func83, Try.ntmps83
 go_wp2
 go_end0
 exact ⟨rfl, rfl⟩
def W4 (s : ByteArray) (w : World) : World := (((w.alloc (.cells #[.bool false, .slice none 0 0, .slice none 0 0] 44)).alloc (.cells #[.string { data := #[] }] 9)).alloc (.cells #[.int .i64 0] 28)).alloc (.cells #[.string s] 86)
theorem zG (w : World) (o : Obj) : (w.alloc o).heap.size = w.heap.size + 1 := Array.size_push _
theorem w4_0 (s : ByteArray) (w : World) : (W4 s w).heap[w.heap.size]? = some (.cells #[.bool false, .slice none 0 0, .slice none 0 0] 44 (0, 0)) := jg (jg (jg (vY _ _) _) _) _
theorem w4_1 (s : ByteArray) (w : World) : (W4 s w).heap[w.heap.size + 1]? = some (.cells #[.string { data := #[] }] 9 (0, 0)) := by rw [← zG w (.cells #[.bool false, .slice none 0 0, .slice none 0 0] 44)]; exact jg (jg (vY _ _) _) _
theorem w4_2 (s : ByteArray) (w : World) : (W4 s w).heap[w.heap.size + 1 + 1]? = some (.cells #[.int .i64 0] 28 (0, 0)) := by rw [← zG w (.cells #[.bool false, .slice none 0 0, .slice none 0 0] 44), ← zG _ (.cells #[.string { data := #[] }] 9)]; exact jg (vY _ _) _
theorem w4_3 (s : ByteArray) (w : World) : (W4 s w).heap[w.heap.size + 1 + 1 + 1]? = some (.cells #[.string s] 86 (0, 0)) := by rw [← zG w (.cells #[.bool false, .slice none 0 0, .slice none 0 0] 44), ← zG _ (.cells #[.string { data := #[] }] 9), ← zG _ (.cells #[.int .i64 0] 28)]; exact vY _ _
theorem jEq (s : ByteArray) (w : World) : (W4 s w).heap.size = w.heap.size + 1 + 1 + 1 + 1 := by unfold W4; rw [zG, zG, zG, zG]
theorem jDz (s : ByteArray) (w : World) : Below w.heap.size w (W4 s w) :=
 jP (jP (jP (jP (Below.refl _ w) _) _) _) _

theorem jJS (k : Nat) (s : ByteArray) (w : World) (c : Int) (hn : OctRat.rat_ k s = some (.inl c)) (hz : s.size ≤ 140737488351232) :
  Calls Try.prog 44 #[.string s] w fun e w' => e = .returned (.tuple #[.agg #[.bool false, .slice none 0 0, .slice none 0 0], .string { data := #[] }, .int .i64 c]) ∧ Below w.heap.size w w' := by
 have hmf : ∀ (fn : Fn) (first cap : Array Value) (w : World), (Instr.makeFunc fn first cap).run Try.prog w = .ok (.func fn first cap) w := fun _ _ _ _ => rfl
 have H0 := jA.mk (w4_0 s w)
 have H1 := jA.mk (w4_1 s w)
 have H2 := jA.mk (w4_2 s w)
 have H3 := jA.mk (w4_3 s w)
 have HW := jA.mk (jDz s w)
 have HZ := jA.mk (jEq s w)
 have HN := jA.mk hn
 clear hn
 go_enter_defers Try.func44, Try.ntmps44
 go_wp2_with fail
 refine (show Calls Try.prog 84 _ (W4 s w) (OctRat.jIY _ (W4 s w) _) from OctRat.jIz k _ s _ _ H3.out hz HN.out).mono ?_
 generalize W4 s w = W at H0 H1 H2 H3 HW HZ ⊢
 rintro e w1 ⟨rfl, hb⟩
 have C0 := jA.mk ((hb.block _ (by omega)).trans H0.out)
 have C1 := jA.mk ((hb.block _ (by omega)).trans H1.out)
 have C2 := jA.mk ((hb.block _ (by omega)).trans H2.out)
 have CB := jA.mk (HW.out.trans (hb.mono (by omega)))
 clear hb
 show bodyPostD Try.prog Try.f44 _ (Exit.panic _) _ _
 unfold bodyPostD pan
 refine leaves_cons (f := 59) (args := #[.pointer (some ⟨w.heap.size + 1 + 1, 0, none⟩), .func (.func 83) #[] #[.pointer (some ⟨w.heap.size, 0, none⟩), .pointer (some ⟨w.heap.size + 1, 0, none⟩)]]) (by simp) kr_ ?_
 have D0 := jM (p := ⟨w.heap.size + 1 + 1, 0, none⟩) C0.out (by simp; omega) (.int .i64 c)
 have D1 := jM (p := ⟨w.heap.size + 1 + 1, 0, none⟩) C1.out (by simp) (.int .i64 c)
 have DB := (CB.out.setCell (p := ⟨w.heap.size + 1 + 1, 0, none⟩) (by simp; omega) (.int .i64 c))
 have HU := jIp w.heap.size (w.heap.size + 1) _ _ _ _ _ D0 D1 (by omega)
 have DU := (((DB.setCell (p := ⟨w.heap.size, 0, none⟩) (by simp) (.bool false)).setCell (p := ⟨w.heap.size, 1, none⟩) (by simp) (.slice none 0 0)).setCell (p := ⟨w.heap.size, 2, none⟩) (by simp) (.slice none 0 0)).setCell (p := ⟨w.heap.size + 1, 0, none⟩) (by simp) (.string { data := #[] })
 have E2 := jM (p := ⟨w.heap.size + 1, 0, none⟩) (jM (p := ⟨w.heap.size, 2, none⟩) (jM (p := ⟨w.heap.size, 1, none⟩) (jM (p := ⟨w.heap.size, 0, none⟩) (jc (cs' := #[.int .i64 c]) C2.out 0 (.int .i64 c) rfl) (by simp; omega) (.bool false)) (by simp; omega) (.slice none 0 0)) (by simp; omega) (.slice none 0 0)) (by simp) (.string { data := #[] })
 have E0 := jM (p := ⟨w.heap.size + 1, 0, none⟩) (jc (cs' := #[.bool false, .slice none 0 0, .slice none 0 0]) (jc (cs' := #[.bool false, .slice none 0 0, .slice none 0 0]) (jc (cs' := #[.bool false, .slice none 0 0, .slice none 0 0]) D0 0 (.bool false) rfl) 1 (.slice none 0 0) rfl) 2 (.slice none 0 0) rfl) (by simp) (.string { data := #[] })
 have E1 := jc (cs' := #[.string { data := #[] }]) (jM (p := ⟨w.heap.size, 2, none⟩) (jM (p := ⟨w.heap.size, 1, none⟩) (jM (p := ⟨w.heap.size, 0, none⟩) D1 (by simp) (.bool false)) (by simp) (.slice none 0 0)) (by simp) (.slice none 0 0)) 0 (.string { data := #[] }) rfl
 refine (qZ ⟨w.heap.size + 1 + 1, 0, none⟩ 0 c 83 Try.f83 _ [] w1 _ ((jE C2.out 0).trans rfl) (jL C2.out 0) (fun _ _ => kr_) HU).mono ?_
 rintro e u' w'' ⟨rfl, rfl, rfl⟩
 have F2 := (jE E2 0).trans (show _ = some (.int .i64 c) from rfl)
 have F0 := (jE E0 0).trans (show _ = some (.bool false) from rfl)
 have F0a := (jE E0 1).trans (show _ = some (.slice none 0 0) from rfl)
 have F0b := (jE E0 2).trans (show _ = some (.slice none 0 0) from rfl)
 have F1 := (jE E1 0).trans (show _ = some (.string { data := #[] }) from rfl)
 clear E0 E1 E2 HU D0 D1 DB
 generalize ((((w1.setCell ⟨w.heap.size + 1 + 1, 0, none⟩ (.int .i64 c)).setCell ⟨w.heap.size, 0, none⟩ (.bool false)).setCell ⟨w.heap.size, 1, none⟩ (.slice none 0 0)).setCell ⟨w.heap.size, 2, none⟩ (.slice none 0 0)).setCell ⟨w.heap.size + 1, 0, none⟩ (.string { data := #[] }) = w3 at DU F0 F0a F0b F1 F2 ⊢
 have hu := Try.underlying44
 simp [Leaves, settle, results, Try.results44, go_sem, F0, F0a, F0b, F1, F2]
 exact DU

theorem jIH (k : Nat) (s : ByteArray) (w : World) (n : Bool) (a b : List Int) (t : ByteArray) (hn : OctRat.rat_ k s = some (.inr (n, a, b, t))) (hz : s.size ≤ 140737488351232) :
  Calls Try.prog 44 #[.string s] w fun e w' => ∃ u1 u2 : Value, e = .returned (.tuple #[.agg #[.bool n, u1, u2], .string t, .int .i64 0]) ∧ Kd.R (Kd.int .u64) 22 w' w.heap.size (fun k_ => some k_ ≠ (u2 : Value).ownBlock) u1 a ∧ Kd.R (Kd.int .u64) 22 w' w.heap.size (fun k_ => some k_ ≠ (u1 : Value).ownBlock) u2 b ∧ Below w.heap.size w w' := by
 have hmf : ∀ (fn : Fn) (first cap : Array Value) (w : World), (Instr.makeFunc fn first cap).run Try.prog w = .ok (.func fn first cap) w := fun _ _ _ _ => rfl
 have H0 := jA.mk (w4_0 s w)
 have H1 := jA.mk (w4_1 s w)
 have H2 := jA.mk (w4_2 s w)
 have H3 := jA.mk (w4_3 s w)
 have HW := jA.mk (jDz s w)
 have HZ := jA.mk (jEq s w)
 have HN := jA.mk hn
 clear hn
 go_enter_defers Try.func44, Try.ntmps44
 go_wp2_with fail
 refine (show Calls Try.prog 84 _ (W4 s w) (OctRat.jIY _ (W4 s w) _) from OctRat.jIz k _ s _ _ H3.out hz HN.out).mono ?_
 generalize W4 s w = W at H0 H1 H2 H3 HW HZ ⊢
 rintro e w1 ⟨u1, u2, rfl, hb, h3, hr1, hr2⟩
 clear HN
 obtain ⟨A1, c1, rfl⟩ := Kd.jq hr1
 obtain ⟨A2, c2, rfl⟩ := Kd.jq hr2
 have C0 := (hb.block _ (by omega)).trans H0.out
 have C1 := (hb.block _ (by omega)).trans H1.out
 have C2 := (hb.block _ (by omega)).trans H2.out
 have CB := HW.out.trans (hb.mono (by omega))
 have X0 := (jE C0 0).trans (show _ = some (.bool false) from rfl)
 have X0a := (jE C0 1).trans (show _ = some (.slice none 0 0) from rfl)
 have X0b := (jE C0 2).trans (show _ = some (.slice none 0 0) from rfl)
 have Z0 := jL C0 0
 have Z0a := jL C0 1
 have Z0b := jL C0 2
 have HZ0 := HZ
 have G1 := Kd.ji (base' := w.heap.size) (Kd.jw (ok' := fun k_ => w.heap.size + 1 + 1 + 1 + 1 ≤ k_ ∧ some k_ ≠ (.slice A2 b.length c2 : Value).ownBlock) (Kd.zR hr1) (fun k_ hk_ => ⟨HZ0.out ▸ hk_.2.1, hk_.1⟩)) (show w.heap.size ≤ W.heap.size by have := HZ0.out; omega)
 have G2 := Kd.ji (base' := w.heap.size) (Kd.jw (ok' := fun k_ => w.heap.size + 1 + 1 + 1 + 1 ≤ k_ ∧ some k_ ≠ (.slice A1 a.length c1 : Value).ownBlock) (Kd.zR hr2) (fun k_ hk_ => ⟨HZ0.out ▸ hk_.2.1, hk_.1⟩)) (show w.heap.size ≤ W.heap.size by have := HZ0.out; omega)
 clear hb HW H0 H1 H2 H3 HZ hr1 hr2
 have D0 := jA.mk (jc (cs' := #[.bool n, .slice A1 a.length c1, .slice A2 b.length c2]) (jc (cs' := #[.bool n, .slice A1 a.length c1, .slice none 0 0]) (jc (cs' := #[.bool n, .slice none 0 0, .slice none 0 0]) C0 0 (.bool n) rfl) 1 (.slice A1 a.length c1) rfl) 2 (.slice A2 b.length c2) rfl)
 have D1 := jA.mk (jM (p := ⟨w.heap.size, 2, none⟩) (jM (p := ⟨w.heap.size, 1, none⟩) (jM (p := ⟨w.heap.size, 0, none⟩) C1 (by simp) (.bool n)) (by simp) (.slice A1 a.length c1)) (by simp) (.slice A2 b.length c2))
 have D2 := jA.mk (jM (p := ⟨w.heap.size, 2, none⟩) (jM (p := ⟨w.heap.size, 1, none⟩) (jM (p := ⟨w.heap.size, 0, none⟩) C2 (by simp; omega) (.bool n)) (by simp; omega) (.slice A1 a.length c1)) (by simp; omega) (.slice A2 b.length c2))
 have D3 := jA.mk (jM (p := ⟨w.heap.size, 2, none⟩) (jM (p := ⟨w.heap.size, 1, none⟩) (jM (p := ⟨w.heap.size, 0, none⟩) h3 (by simp; omega) (.bool n)) (by simp; omega) (.slice A1 a.length c1)) (by simp; omega) (.slice A2 b.length c2))
 have DB := jA.mk (((CB.setCell (p := ⟨w.heap.size, 0, none⟩) (by simp) (.bool n)).setCell (p := ⟨w.heap.size, 1, none⟩) (by simp) (.slice A1 a.length c1)).setCell (p := ⟨w.heap.size, 2, none⟩) (by simp) (.slice A2 b.length c2))
 have HV1 := jA.mk (Kd.zl (p := ⟨w.heap.size, 2, none⟩) (Kd.zl (p := ⟨w.heap.size, 1, none⟩) (Kd.zl (p := ⟨w.heap.size, 0, none⟩) G1 (fun k_ hk_ => by have := hk_.1; show k_ ≠ w.heap.size; omega) (.bool n)) (fun k_ hk_ => by have := hk_.1; show k_ ≠ w.heap.size; omega) (.slice A1 a.length c1)) (fun k_ hk_ => by have := hk_.1; show k_ ≠ w.heap.size; omega) (.slice A2 b.length c2))
 have HV2 := jA.mk (Kd.zl (p := ⟨w.heap.size, 2, none⟩) (Kd.zl (p := ⟨w.heap.size, 1, none⟩) (Kd.zl (p := ⟨w.heap.size, 0, none⟩) G2 (fun k_ hk_ => by have := hk_.1; show k_ ≠ w.heap.size; omega) (.bool n)) (fun k_ hk_ => by have := hk_.1; show k_ ≠ w.heap.size; omega) (.slice A1 a.length c1)) (fun k_ hk_ => by have := hk_.1; show k_ ≠ w.heap.size; omega) (.slice A2 b.length c2))
 clear C0 C1 C2 CB h3 G1 G2 HZ0
 go_wp2
 generalize (((w1.setCell ⟨w.heap.size, 0, none⟩ (.bool n)).setCell ⟨w.heap.size, 1, none⟩ (.slice A1 a.length c1)).setCell ⟨w.heap.size, 2, none⟩ (.slice A2 b.length c2)) = v0 at D0 D1 D2 D3 DB HV1 HV2 ⊢
 refine jCS ?_
 refine jAN (n := 8) (S := fun w' => w'.heap[w.heap.size]? = some (.cells #[.bool n, .slice A1 a.length c1, .slice A2 b.length c2] 44 (0, 0)) ∧ w'.heap[w.heap.size + 1]? = some (.cells #[.string { data := #[] }] 9 (0, 0)) ∧ w'.heap[w.heap.size + 1 + 1]? = some (.cells #[.int .i64 0] 28 (0, 0)) ∧ w'.heap[w.heap.size + 1 + 1 + 1]? = some (.cells #[.string t] 86 (0, 0)) ∧ Below w.heap.size w w' ∧ Kd.R (Kd.int .u64) 22 w' w.heap.size (fun k_ => w.heap.size + 1 + 1 + 1 + 1 ≤ k_ ∧ some k_ ≠ (.slice A2 b.length c2 : Value).ownBlock) (.slice A1 a.length c1) a ∧ Kd.R (Kd.int .u64) 22 w' w.heap.size (fun k_ => w.heap.size + 1 + 1 + 1 + 1 ≤ k_ ∧ some k_ ≠ (.slice A1 a.length c1 : Value).ownBlock) (.slice A2 b.length c2) b) (ds := [6, 7]) #[false, false, false, false, false, false, false, false] kr_ rfl rfl ⟨jr D0.out, jr D1.out, jr D2.out, jr D3.out, vL DB.out, Kd.zi HV1.out, Kd.zi HV2.out⟩ (fun hHeld => ?_)
 generalize v0.drew = u0 at hHeld ⊢
 clear D0 D1 D2 D3 DB HV1 HV2
 refine jAj (i := 0) (N := some 12) (v := ?_) (a' := ?_) (ba_ 8 1) rfl rfl kr_ (fun _ _ _ h => h) (Or.inl ⟨by rfl, ?_⟩) hHeld ?_ ?_
 rotate_left
 ·
  rintro w' ⟨s0_, s1_, s2_, s3_, s4_, s5_, s6_⟩
  have hc := (jE s0_ 0).trans (show _ = some (.bool n) from rfl)
  have hca := (jE s0_ 1).trans (show _ = some (.slice A1 a.length c1) from rfl)
  have hcb := (jE s0_ 2).trans (show _ = some (.slice A2 b.length c2) from rfl)
  go_simp
  with_reducible rfl
 rotate_left
 ·
  simp only [Act.put, ss_, vU, zI]
  rfl
 refine pu_ 1 (some 13) (ba_ 8 3) kr_ ?_
 refine pu_ 2 (some 14) (ba_ 8 7) kr_ ?_
 refine pu_ 3 (some 15) (ba_ 8 15) kr_ ?_
 refine jAj (i := 4) (N := some 16) (v := ?_) (a' := ?_) (ba_ 8 31) rfl rfl kr_ (fun _ _ _ h => h) (Or.inl ⟨by rfl, ?_⟩) hHeld ?_ ?_
 rotate_left
 ·
  rintro w' ⟨s0_, s1_, s2_, s3_, s4_, s5_, s6_⟩
  have hc := (jE s3_ 0).trans (show _ = some (.string t) from rfl)
  go_simp
  with_reducible rfl
 rotate_left
 ·
  simp only [Act.put, ss_, vU, zI]
  rfl
 obtain ⟨s0_, s1_, s2_, s3_, s4_, s5_, s6_⟩ := hHeld
 refine one_ (i := 5) (N := none) (ba_ 8 63) rfl rfl kr_ (by decide) (fun K hK => ?_)
 have hc := (jE s0_ 0).trans (show _ = some (.bool n) from rfl)
 have hca := (jE s0_ 1).trans (show _ = some (.slice A1 a.length c1) from rfl)
 have hcb := (jE s0_ 2).trans (show _ = some (.slice A2 b.length c2) from rfl)
 have hf := jL s0_ 0
 have hfa := jL s0_ 1
 have hfb := jL s0_ 2
 refine jAB (w1 := ?_) (by rfl) rfl ?_ ?_
 rotate_left
 ·
  go_simp
  rfl
 refine hK.out _ _ ⟨(jc (cs' := #[.bool n, .slice A1 a.length c1, .slice A2 b.length c2]) (jc (cs' := #[.bool n, .slice A1 a.length c1, .slice A2 b.length c2]) (jc (cs' := #[.bool n, .slice A1 a.length c1, .slice A2 b.length c2]) s0_ 0 (.bool n) rfl) 1 (.slice A1 a.length c1) rfl) 2 (.slice A2 b.length c2) rfl), (jM (p := ⟨w.heap.size, 2, none⟩) (jM (p := ⟨w.heap.size, 1, none⟩) (jM (p := ⟨w.heap.size, 0, none⟩) s1_ (by simp) (.bool n)) (by simp) (.slice A1 a.length c1)) (by simp) (.slice A2 b.length c2)), (jM (p := ⟨w.heap.size, 2, none⟩) (jM (p := ⟨w.heap.size, 1, none⟩) (jM (p := ⟨w.heap.size, 0, none⟩) s2_ (by simp; omega) (.bool n)) (by simp; omega) (.slice A1 a.length c1)) (by simp; omega) (.slice A2 b.length c2)), (jM (p := ⟨w.heap.size, 2, none⟩) (jM (p := ⟨w.heap.size, 1, none⟩) (jM (p := ⟨w.heap.size, 0, none⟩) s3_ (by simp; omega) (.bool n)) (by simp; omega) (.slice A1 a.length c1)) (by simp; omega) (.slice A2 b.length c2)), (((s4_.setCell (p := ⟨w.heap.size, 0, none⟩) (by simp) (.bool n)).setCell (p := ⟨w.heap.size, 1, none⟩) (by simp) (.slice A1 a.length c1)).setCell (p := ⟨w.heap.size, 2, none⟩) (by simp) (.slice A2 b.length c2)), (Kd.zl (p := ⟨w.heap.size, 2, none⟩) (Kd.zl (p := ⟨w.heap.size, 1, none⟩) (Kd.zl (p := ⟨w.heap.size, 0, none⟩) s5_ (fun k_ hk_ => by have := hk_.1; show k_ ≠ w.heap.size; omega) (.bool n)) (fun k_ hk_ => by have := hk_.1; show k_ ≠ w.heap.size; omega) (.slice A1 a.length c1)) (fun k_ hk_ => by have := hk_.1; show k_ ≠ w.heap.size; omega) (.slice A2 b.length c2)), (Kd.zl (p := ⟨w.heap.size, 2, none⟩) (Kd.zl (p := ⟨w.heap.size, 1, none⟩) (Kd.zl (p := ⟨w.heap.size, 0, none⟩) s6_ (fun k_ hk_ => by have := hk_.1; show k_ ≠ w.heap.size; omega) (.bool n)) (fun k_ hk_ => by have := hk_.1; show k_ ≠ w.heap.size; omega) (.slice A1 a.length c1)) (fun k_ hk_ => by have := hk_.1; show k_ ≠ w.heap.size; omega) (.slice A2 b.length c2))⟩ (fun hHeld => ?_)
 clear hK K
 clear hc hca hcb hf hfa hfb
 obtain ⟨s0_, s1_, s2_, s3_, s4_, s5_, s6_⟩ := hHeld
 refine jAX (i := 6) (N := none) (ba_ 8 127) rfl rfl kr_ (by decide) (fun K hK => ?_)
 have hc := (jE s1_ 0).trans (show _ = some (.string { data := #[] }) from rfl)
 have hf := jL s1_ 0
 refine jAB (w1 := ?_) (by rfl) rfl ?_ ?_
 rotate_left
 ·
  go_simp
  rfl
 refine hK.out _ _ ?_
 clear hK K
 have e0 := jM (p := ⟨w.heap.size + 1, 0, none⟩) s0_ (by simp) (.string t)
 have e1 := jc (cs' := #[.string t]) s1_ 0 (.string t) rfl
 have e2 := jM (p := ⟨w.heap.size + 1, 0, none⟩) s2_ (by simp) (.string t)
 have e4 := s4_.setCell (p := ⟨w.heap.size + 1, 0, none⟩) (by simp) (.string t)
 have c2_ := (jE s2_ 0).trans (show _ = some (.int .i64 0) from rfl)
 have z2 := jL s2_ 0
 have e5 := (Kd.zl (p := ⟨w.heap.size + 1, 0, none⟩) s5_ (fun k_ hk_ => by have := hk_.1; show k_ ≠ w.heap.size + 1; omega) (.string t))
 have e6 := (Kd.zl (p := ⟨w.heap.size + 1, 0, none⟩) s6_ (fun k_ hk_ => by have := hk_.1; show k_ ≠ w.heap.size + 1; omega) (.string t))
 clear s0_ s1_ s2_ s3_ s4_ s5_ s6_
 refine jAX (i := 7) (N := none) (ba_ 8 255) rfl rfl kr_ (by decide) (fun K hK => ?_)
 have hc := (jE e2 0).trans (show _ = some (.int .i64 0) from rfl)
 have hf := jL e2 0
 refine jAB (w1 := ?_) (by rfl) rfl ?_ ?_
 rotate_left
 ·
  go_simp
  rfl
 refine hK.out _ _ ?_
 clear hK K
 have ff0 := (jM (p := ⟨w.heap.size + 1 + 1, 0, none⟩) e0 (by simp; omega) (.int .i64 0))
 have f0 := (jE ff0 0).trans (show _ = some (.bool n) from rfl)
 have f0a := (jE ff0 1).trans (show _ = some (.slice A1 a.length c1) from rfl)
 have f0b := (jE ff0 2).trans (show _ = some (.slice A2 b.length c2) from rfl)
 have f1 := (jE (jM (p := ⟨w.heap.size + 1 + 1, 0, none⟩) e1 (by simp) (.int .i64 0)) 0).trans (show _ = some (.string t) from rfl)
 have f2 := (jE (jc (cs' := #[.int .i64 0]) e2 0 (.int .i64 0) rfl) 0).trans (show _ = some (.int .i64 0) from rfl)
 have f4 := e4.setCell (p := ⟨w.heap.size + 1 + 1, 0, none⟩) (by simp; omega) (.int .i64 0)
 have f5 := (Kd.zl (p := ⟨w.heap.size + 1 + 1, 0, none⟩) e5 (fun k_ hk_ => by have := hk_.1; show k_ ≠ w.heap.size + 1 + 1; omega) (.int .i64 0))
 have f6 := (Kd.zl (p := ⟨w.heap.size + 1 + 1, 0, none⟩) e6 (fun k_ hk_ => by have := hk_.1; show k_ ≠ w.heap.size + 1 + 1; omega) (.int .i64 0))
 clear e0 e1 e2 e4 e5 e6 ff0
 refine jBQ kr_ ?_
 refine qU ?_
 refine (‹∀ (a : Act) (w : World), Code.wp Try.prog Code.ret _ a w → _›) _ _ ?_
 clear hc hf c2_ z2 X0 X0a X0b Z0 Z0a Z0b
 go_wp2
 generalize ((((u0.setCell ⟨w.heap.size, 0, none⟩ (.bool n)).setCell ⟨w.heap.size, 1, none⟩ (.slice A1 a.length c1)).setCell ⟨w.heap.size, 2, none⟩ (.slice A2 b.length c2)).setCell ⟨w.heap.size + 1, 0, none⟩ (.string t)).setCell ⟨w.heap.size + 1 + 1, 0, none⟩ (.int .i64 0) = w3 at f0 f0a f0b f1 f2 f4 f5 f6 ⊢
 unfold bodyPostD
 refine leaves_cons (f := 59) (args := #[.pointer (some ⟨w.heap.size + 1 + 1, 0, none⟩), .func (.func 83) #[] #[.pointer (some ⟨w.heap.size, 0, none⟩), .pointer (some ⟨w.heap.size + 1, 0, none⟩)]]) (by simp) kr_ ?_
 refine (jAK _ _ _).mono ?_
 rintro e u' w'' ⟨rfl, rfl, rfl⟩
 have hu := Try.underlying44
 simp [Leaves, settle, results, Try.results44, go_sem, f0, f0a, f0b, f1, f2]
 refine ⟨.slice A1 a.length c1, .slice A2 b.length c2, by first | rfl | exact ⟨rfl, rfl⟩ | simp, Kd.jw f5 (fun _ h_ => h_.2), Kd.jw f6 (fun _ h_ => h_.2), f4⟩
end jm

def jm.f (k : Nat) (a0 : ByteArray) : Option (Bool × List Int × List Int × ByteArray × Int) := if a0.size ≤ 140737488351232 then ((OctRat.rat_ k a0).bind fun v_ => some (match v_ with | .inl c => (false, [], [], { data := #[] }, c) | .inr (n, a, b, t) => (n, a, b, t, 0))) else none
theorem jm.mono : ∀ a0 k, LeO (jm.f k a0) (jm.f (k + 1) a0) := by
 intro a0 k
 unfold jm.f
 exact LeO.ite (LeO.bind (OctRat.jGf a0 k) fun _ => LeO.refl _) (LeO.refl _)
theorem jm.calls (k : Nat) (a0 : ByteArray) (r1 : Bool) (r2 : List Int) (r3 : List Int) (r4 : ByteArray) (r5 : Int) (w : World) (h : jm.f k a0 = some (r1, r2, r3, r4, r5)) :
  Calls Try.prog 44 #[.string a0] w fun e w' => ∃ v1_ v2_ : Value, e = .returned (.tuple #[.agg #[.bool r1, v1_, v2_], .string r4, .int .i64 r5]) ∧ Kd.R (Kd.int .u64) 22 w' w.heap.size (fun k_ => some k_ ≠ (v2_ : Value).ownBlock) v1_ r2 ∧ Kd.R (Kd.int .u64) 22 w' w.heap.size (fun k_ => some k_ ≠ (v1_ : Value).ownBlock) v2_ r3 ∧ Below w.heap.size w w' := by
 unfold jm.f at h
 by_cases hz : a0.size ≤ 140737488351232
 ·
  rw [if_pos hz] at h
  obtain ⟨v, hv, h⟩ := Option.bind_eq_some_iff.mp h
  cases v with
  | inl c =>
   cases h
   refine (jm.jJS k a0 w _ hv hz).mono ?_
   rintro e w' ⟨he, hb⟩
   exact ⟨_, _, he, Kd.jBK _ _ _ _ _, Kd.jBK _ _ _ _ _, hb⟩
  | inr p =>
   obtain ⟨n, a, b, t⟩ := p
   cases h
   exact jm.jIH k a0 w _ _ _ _ hv hz
 ·
  rw [if_neg hz] at h; cases h

end Go.Proofs.Ytijgeonhbmgikaa.POOctetOne
