-- printed (pr.py)
import Derived.Test.YtijgeonhbmgikaaPORatioFieldx8
namespace Go.Proofs.Ytijgeonhbmgikaa.PORatioField
open Go.RowKit Go.Proofs.YtijgeonhbmgikaaN Go.Proofs.YtijgeonhbmgikaaW.PrintWords Go.Proofs.YtijgeonhbmgikaaW.PrintLast Go.Proofs.YtijgeonhbmgikaaW.PrintMore
attribute [local go_sem] qH qF qg qd zq zo qG qE
set_option maxHeartbeats 8000000
set_option maxRecDepth 100000
set_option linter.unusedVariables false
set_option linter.unusedSimpArgs false
def vV.f (k : Nat) (a0_0 : Bool) (l0_1 : List Int) (l0_2 : List Int) : Option (Bool) := (vE.f k l0_1 l0_2).bind fun bt285 => (if bt285.2 = 0 then (if (l0_2.length : Int) > 0 then ((jAP.f k bt285.1 (([1] : List Int))).bind fun t292 => (if t292 = 0 then (if a0_0 = true then ((zF.f a0_0 l0_1 l0_2).bind fun t293 => (some (!t293))) else (some true)) else (some false))) else (some false)) else (some false))
theorem vV.mono : ∀ a0 a1 a2 k, LeO (vV.f k a0 a1 a2) (vV.f (k + 1) a0 a1 a2) := by
 intro a0 a1 a2 k
 unfold vV.f
 repeat' first
   | (with_reducible exact jAP.mono _ _ _)
   | (with_reducible exact vE.mono _ _ _)
   | (with_reducible exact LeO.refl _)
   | (with_reducible exact LeO.none _)
   | (with_reducible refine LeO.ite ?_ ?_)
   | (with_reducible refine LeO.bind ?_ (fun _ => ?_))
theorem vV.calls (k : Nat) (a0_0 : Bool) (A0_1 : Option Addr) (c0_1 : Nat) (l0_1 : List Int) (A0_2 : Option Addr) (c0_2 : Nat) (l0_2 : List Int) (r : Bool) (w : World) (hr0_1 : Kd.C (Kd.int .u64) w A0_1 l0_1.length l0_1) (hc0_1 : l0_1.length ≤ c0_1) (hr0_2 : Kd.C (Kd.int .u64) w A0_2 l0_2.length l0_2) (hc0_2 : l0_2.length ≤ c0_2) (h : vV.f k a0_0 l0_1 l0_2 = some r) :
  Calls Try.prog 27 #[.agg #[.bool a0_0, .slice A0_1 l0_1.length c0_1, .slice A0_2 l0_2.length c0_2]] w fun e w' => e = .returned (.bool r) ∧ Below w.heap.size w w' := by
 have hu44 := Try.underlying44
 have HR0_1 := jA.mk hr0_1
 have HC0_1 := jA.mk hc0_1
 clear hr0_1 hc0_1
 have HR0_2 := jA.mk hr0_2
 have HC0_2 := jA.mk hc0_2
 clear hr0_2 hc0_2
 have HB := jA.mk (Below.refl w.heap.size w)
 have H : ((vE.f k l0_1 l0_2).bind fun bt285 => (if bt285.2 = 0 then (if (l0_2.length : Int) > 0 then ((jAP.f k bt285.1 (([1] : List Int))).bind fun t292 => (if t292 = 0 then (if a0_0 = true then ((zF.f a0_0 l0_1 l0_2).bind fun t293 => (some (!t293))) else (some true)) else (some false))) else (some false)) else (some false))) = some r := h
 clear h
 replace H := ob_ H
 obtain ⟨⟨t285, t286⟩, A20, H⟩ := H
 try dsimp only at H
 have A2 := jA.mk A20
 clear A20
 by_cases c3 : t286 = 0
 ·
  rw [if_pos c3] at H
  have c3b0 := beq_iff_eq.mpr c3
  have c3b1 := bne_eq_false_iff_eq.mpr c3
  clear c3
  by_cases c4 : (l0_2.length : Int) > 0
  ·
   rw [if_pos c4] at H
   have c4b0 := decide_eq_true c4
   have c4b1 : decide (0 < l0_2.length) = true := decide_eq_true (by omega)
   clear c4
   obtain ⟨y289, hy289⟩ : ∃ y_ : List Int, y_ = (([1] : List Int)) := ⟨_, rfl⟩
   replace H : ((jAP.f k t285 y289).bind fun t292 => (if t292 = 0 then (if a0_0 = true then ((zF.f a0_0 l0_1 l0_2).bind fun t293 => (some (!t293))) else (some true)) else (some false))) = some r := by first | (rw [hy289]; with_reducible exact H) | (have H2_ := (Option.bind_some _ _).symm.trans H; rw [hy289]; with_reducible exact H2_) | (with_reducible exact hs_ H) | with_reducible exact H | (rw [hy289]; exact H) | exact H
   have Ny289 := jA.mk hy289
   clear hy289
   obtain ⟨t292, A5, H⟩ := oc_ H
   try dsimp only at H
   by_cases c6 : t292 = 0
   ·
    rw [if_pos c6] at H
    have c6b0 := beq_iff_eq.mpr c6
    have c6b1 := bne_eq_false_iff_eq.mpr c6
    clear c6
    by_cases c7 : a0_0 = true
    ·
     subst c7
     replace H := ip_ H
     obtain ⟨t293, A8, H⟩ := oc_ H
     try dsimp only at H
     obtain rfl := Option.some.inj H
     go_enter Try.func27, Try.ntmps27
     go_wp2_with (first | ((with_reducible refine jX (N := 1) rfl ?_); (try (refine jr (by rfl) ?_; dsimp only)); refine bx_ 1 #[.bool true, .slice A0_1 l0_1.length c0_1, .slice A0_2 l0_2.length c0_2] 44 ?_; intro gb284 hg w9 hbox hb; have BK284 := jA.mk (hbox); have GW284 := jA.mk ((by rw [hg]; exact (jC (bb_ HB)) : w.heap.size ≤ gb284)); have GE284 := GW284; replace HB := bs_ HB hb; clear hb hbox hg; obtain ⟨hcz10_0, hcz10_1, hcz10_2, hfz10_0, hfz10_1, hfz10_2⟩ := bf3_ BK284) | ((with_reducible refine jH (f := 71) rfl ?_); refine gl_ (some 10) Try.func71 #[.slice A0_1 l0_1.length c0_1, .slice A0_2 l0_2.length c0_2] ?_; (with_reducible refine (vE.calls k _ _ l0_1 _ _ l0_2 t285 t286 _ ?side1 ?side2 ?side3 ?side4 A2.out).mono ?_); (case side1 => exact cb_ HR0_1 HB); (case side2 => exact HC0_1.out); (case side3 => exact cb_ HR0_2 HB); (case side4 => exact HC0_2.out); rintro e w11 ⟨v287, rfl, ho0, hb⟩; refine ⟨_, rfl, ?_⟩; have HO288 := jA.mk (Kd.jN ho0 (jC (bb1_ HB GE284))); replace BK284 := bk_ BK284 hb; replace HB := jA.mk (jI (bb1_ HB GE284) hb); obtain ⟨hcz12_0, hcz12_1, hcz12_2, hfz12_0, hfz12_1, hfz12_2⟩ := bf3_ BK284) | ((with_reducible refine jX (N := 23) rfl ?_); (try (refine jr (by rfl) ?_; dsimp only)); refine Kd.jAC (Kd.int .u64) _ 22 ?hg (N := 23) ?hd (xs := ([1] : List Int)) (inner := [.int .u64 1]) (ok := fun _ => True) (okp := fun _ => True) ?hr ?hp (fun _ hk => hk) trivial (Below.refl _ _) (Nat.le_refl _) (by simp) ?_; (case hd => rfl); (case hg => rfl); (case hr => exact gs_); (case hp => exact (Reps.one (show Kd.M (Kd.int .u64) _ _ _ 1 [.int .u64 1] from rfl) (Reps.none _ _))); intro v290 w13 ho14 hb hg_ hnew_; clear hg_ hnew_; (first | rw [← Ny289.out] at ho14 | (simp only [Int.reduceToNat] at ho14; rw [← Ny289.out] at ho14)); have HO291 := jA.mk (Kd.jN (Kd.jL ho14 (Kd.R_lt (rR_ HO288))) (jC (bb1_ HB GE284))); replace HO288 := re_ HO288 ho14 hb; replace BK284 := bk_ BK284 hb; replace HB := jA.mk (jI (bb1_ HB GE284) hb); clear hb ho14; obtain ⟨Ao15, co15, rfl⟩ := Kd.jV HO288.out; obtain ⟨Ao16, co16, rfl⟩ := Kd.jV HO291.out) | ((with_reducible refine jX (N := 24) rfl ?_); (try (refine jr (by rfl) ?_; dsimp only)); refine jr (by first | rfl | kernel_rfl) ?_; dsimp only; (with_reducible refine jH (f := 73) rfl ?_); refine gl_ (some 24) Try.func73 #[.slice Ao15 t285.length co15, .slice Ao16 y289.length co16] ?_; (with_reducible refine (jAP.calls k _ _ t285 _ _ y289 t292 _ ?side1 ?side2 ?side3 ?side4 A5.out).mono ?_); (case side1 => exact cc_ (Kd.jE HO288.out).2.2); (case side2 => exact (Kd.jE HO288.out).2.1); (case side3 => exact cc_ (Kd.jE HO291.out).2.2); (case side4 => exact (Kd.jE HO291.out).2.1); rintro e w17 ⟨rfl, hb⟩; refine ⟨_, rfl, ?_⟩; replace HO288 := ro_ HO288 hb; replace HO291 := ro_ HO291 hb; replace BK284 := bk_ BK284 hb; replace HB := jA.mk (jI (bb1_ HB GE284) hb); obtain ⟨hcz18_0, hcz18_1, hcz18_2, hfz18_0, hfz18_1, hfz18_2⟩ := bf3_ BK284) | (go_at_call 54; (with_reducible refine (zF.calls true _ _ l0_1 _ _ l0_2 t293 _ ?side1 ?side2 ?side3 ?side4 A8.out).mono ?_); (case side1 => exact cb_ HR0_1 HB); (case side2 => exact HC0_1.out); (case side3 => exact cb_ HR0_2 HB); (case side4 => exact HC0_2.out); rintro e w19 ⟨rfl, hb⟩; replace HO288 := ro_ HO288 hb; replace HO291 := ro_ HO291 hb; replace BK284 := bk_ BK284 hb; replace HB := jA.mk (jI (bb1_ HB GE284) hb)))
     go_ret
     exact ⟨ew_, (bb1_ HB GE284)⟩
    ·
     replace c7 := Bool.eq_false_iff.mpr c7
     subst c7
     replace H := in_ H
     obtain rfl := Option.some.inj H
     go_enter Try.func27, Try.ntmps27
     go_wp2_with (first | ((with_reducible refine jX (N := 1) rfl ?_); (try (refine jr (by rfl) ?_; dsimp only)); refine bx_ 1 #[.bool false, .slice A0_1 l0_1.length c0_1, .slice A0_2 l0_2.length c0_2] 44 ?_; intro gb284 hg w20 hbox hb; have BK284 := jA.mk (hbox); have GW284 := jA.mk ((by rw [hg]; exact (jC (bb_ HB)) : w.heap.size ≤ gb284)); have GE284 := GW284; replace HB := bs_ HB hb; clear hb hbox hg; obtain ⟨hcz21_0, hcz21_1, hcz21_2, hfz21_0, hfz21_1, hfz21_2⟩ := bf3_ BK284) | ((with_reducible refine jH (f := 71) rfl ?_); refine gl_ (some 10) Try.func71 #[.slice A0_1 l0_1.length c0_1, .slice A0_2 l0_2.length c0_2] ?_; (with_reducible refine (vE.calls k _ _ l0_1 _ _ l0_2 t285 t286 _ ?side1 ?side2 ?side3 ?side4 A2.out).mono ?_); (case side1 => exact cb_ HR0_1 HB); (case side2 => exact HC0_1.out); (case side3 => exact cb_ HR0_2 HB); (case side4 => exact HC0_2.out); rintro e w22 ⟨v287, rfl, ho0, hb⟩; refine ⟨_, rfl, ?_⟩; have HO288 := jA.mk (Kd.jN ho0 (jC (bb1_ HB GE284))); replace BK284 := bk_ BK284 hb; replace HB := jA.mk (jI (bb1_ HB GE284) hb); obtain ⟨hcz23_0, hcz23_1, hcz23_2, hfz23_0, hfz23_1, hfz23_2⟩ := bf3_ BK284) | ((with_reducible refine jX (N := 23) rfl ?_); (try (refine jr (by rfl) ?_; dsimp only)); refine Kd.jAC (Kd.int .u64) _ 22 ?hg (N := 23) ?hd (xs := ([1] : List Int)) (inner := [.int .u64 1]) (ok := fun _ => True) (okp := fun _ => True) ?hr ?hp (fun _ hk => hk) trivial (Below.refl _ _) (Nat.le_refl _) (by simp) ?_; (case hd => rfl); (case hg => rfl); (case hr => exact gs_); (case hp => exact (Reps.one (show Kd.M (Kd.int .u64) _ _ _ 1 [.int .u64 1] from rfl) (Reps.none _ _))); intro v290 w24 ho25 hb hg_ hnew_; clear hg_ hnew_; (first | rw [← Ny289.out] at ho25 | (simp only [Int.reduceToNat] at ho25; rw [← Ny289.out] at ho25)); have HO291 := jA.mk (Kd.jN (Kd.jL ho25 (Kd.R_lt (rR_ HO288))) (jC (bb1_ HB GE284))); replace HO288 := re_ HO288 ho25 hb; replace BK284 := bk_ BK284 hb; replace HB := jA.mk (jI (bb1_ HB GE284) hb); clear hb ho25; obtain ⟨Ao26, co26, rfl⟩ := Kd.jV HO288.out; obtain ⟨Ao27, co27, rfl⟩ := Kd.jV HO291.out) | ((with_reducible refine jX (N := 24) rfl ?_); (try (refine jr (by rfl) ?_; dsimp only)); refine jr (by first | rfl | kernel_rfl) ?_; dsimp only; (with_reducible refine jH (f := 73) rfl ?_); refine gl_ (some 24) Try.func73 #[.slice Ao26 t285.length co26, .slice Ao27 y289.length co27] ?_; (with_reducible refine (jAP.calls k _ _ t285 _ _ y289 t292 _ ?side1 ?side2 ?side3 ?side4 A5.out).mono ?_); (case side1 => exact cc_ (Kd.jE HO288.out).2.2); (case side2 => exact (Kd.jE HO288.out).2.1); (case side3 => exact cc_ (Kd.jE HO291.out).2.2); (case side4 => exact (Kd.jE HO291.out).2.1); rintro e w28 ⟨rfl, hb⟩; refine ⟨_, rfl, ?_⟩; replace HO288 := ro_ HO288 hb; replace HO291 := ro_ HO291 hb; replace BK284 := bk_ BK284 hb; replace HB := jA.mk (jI (bb1_ HB GE284) hb); obtain ⟨hcz29_0, hcz29_1, hcz29_2, hfz29_0, hfz29_1, hfz29_2⟩ := bf3_ BK284))
     go_ret
     exact ⟨ew_, (bb1_ HB GE284)⟩
   ·
    rw [if_neg c6] at H
    have c6b0 := beq_eq_false_iff_ne.mpr c6
    have c6b1 := bne_iff_ne.mpr c6
    obtain rfl := Option.some.inj H
    go_enter Try.func27, Try.ntmps27
    go_wp2_with (first | ((with_reducible refine jX (N := 1) rfl ?_); (try (refine jr (by rfl) ?_; dsimp only)); refine bx_ 1 #[.bool a0_0, .slice A0_1 l0_1.length c0_1, .slice A0_2 l0_2.length c0_2] 44 ?_; intro gb284 hg w30 hbox hb; have BK284 := jA.mk (hbox); have GW284 := jA.mk ((by rw [hg]; exact (jC (bb_ HB)) : w.heap.size ≤ gb284)); have GE284 := GW284; replace HB := bs_ HB hb; clear hb hbox hg; obtain ⟨hcz31_0, hcz31_1, hcz31_2, hfz31_0, hfz31_1, hfz31_2⟩ := bf3_ BK284) | ((with_reducible refine jH (f := 71) rfl ?_); refine gl_ (some 10) Try.func71 #[.slice A0_1 l0_1.length c0_1, .slice A0_2 l0_2.length c0_2] ?_; (with_reducible refine (vE.calls k _ _ l0_1 _ _ l0_2 t285 t286 _ ?side1 ?side2 ?side3 ?side4 A2.out).mono ?_); (case side1 => exact cb_ HR0_1 HB); (case side2 => exact HC0_1.out); (case side3 => exact cb_ HR0_2 HB); (case side4 => exact HC0_2.out); rintro e w32 ⟨v287, rfl, ho0, hb⟩; refine ⟨_, rfl, ?_⟩; have HO288 := jA.mk (Kd.jN ho0 (jC (bb1_ HB GE284))); replace BK284 := bk_ BK284 hb; replace HB := jA.mk (jI (bb1_ HB GE284) hb); obtain ⟨hcz33_0, hcz33_1, hcz33_2, hfz33_0, hfz33_1, hfz33_2⟩ := bf3_ BK284) | ((with_reducible refine jX (N := 23) rfl ?_); (try (refine jr (by rfl) ?_; dsimp only)); refine Kd.jAC (Kd.int .u64) _ 22 ?hg (N := 23) ?hd (xs := ([1] : List Int)) (inner := [.int .u64 1]) (ok := fun _ => True) (okp := fun _ => True) ?hr ?hp (fun _ hk => hk) trivial (Below.refl _ _) (Nat.le_refl _) (by simp) ?_; (case hd => rfl); (case hg => rfl); (case hr => exact gs_); (case hp => exact (Reps.one (show Kd.M (Kd.int .u64) _ _ _ 1 [.int .u64 1] from rfl) (Reps.none _ _))); intro v290 w34 ho35 hb hg_ hnew_; clear hg_ hnew_; (first | rw [← Ny289.out] at ho35 | (simp only [Int.reduceToNat] at ho35; rw [← Ny289.out] at ho35)); have HO291 := jA.mk (Kd.jN (Kd.jL ho35 (Kd.R_lt (rR_ HO288))) (jC (bb1_ HB GE284))); replace HO288 := re_ HO288 ho35 hb; replace BK284 := bk_ BK284 hb; replace HB := jA.mk (jI (bb1_ HB GE284) hb); clear hb ho35; obtain ⟨Ao36, co36, rfl⟩ := Kd.jV HO288.out; obtain ⟨Ao37, co37, rfl⟩ := Kd.jV HO291.out) | ((with_reducible refine jX (N := 24) rfl ?_); (try (refine jr (by rfl) ?_; dsimp only)); refine jr (by first | rfl | kernel_rfl) ?_; dsimp only; (with_reducible refine jH (f := 73) rfl ?_); refine gl_ (some 24) Try.func73 #[.slice Ao36 t285.length co36, .slice Ao37 y289.length co37] ?_; (with_reducible refine (jAP.calls k _ _ t285 _ _ y289 t292 _ ?side1 ?side2 ?side3 ?side4 A5.out).mono ?_); (case side1 => exact cc_ (Kd.jE HO288.out).2.2); (case side2 => exact (Kd.jE HO288.out).2.1); (case side3 => exact cc_ (Kd.jE HO291.out).2.2); (case side4 => exact (Kd.jE HO291.out).2.1); rintro e w38 ⟨rfl, hb⟩; refine ⟨_, rfl, ?_⟩; replace HO288 := ro_ HO288 hb; replace HO291 := ro_ HO291 hb; replace BK284 := bk_ BK284 hb; replace HB := jA.mk (jI (bb1_ HB GE284) hb)))
    go_ret
    exact ⟨ew_, (bb1_ HB GE284)⟩
  ·
   rw [if_neg c4] at H
   have c4b0 := decide_eq_false c4
   have c4b1 : decide (0 < l0_2.length) = false := decide_eq_false (by omega)
   clear c4
   obtain rfl := Option.some.inj H
   go_enter Try.func27, Try.ntmps27
   go_wp2_with (first | ((with_reducible refine jX (N := 1) rfl ?_); (try (refine jr (by rfl) ?_; dsimp only)); refine bx_ 1 #[.bool a0_0, .slice A0_1 l0_1.length c0_1, .slice A0_2 l0_2.length c0_2] 44 ?_; intro gb284 hg w39 hbox hb; have BK284 := jA.mk (hbox); have GW284 := jA.mk ((by rw [hg]; exact (jC (bb_ HB)) : w.heap.size ≤ gb284)); have GE284 := GW284; replace HB := bs_ HB hb; clear hb hbox hg; obtain ⟨hcz40_0, hcz40_1, hcz40_2, hfz40_0, hfz40_1, hfz40_2⟩ := bf3_ BK284) | ((with_reducible refine jH (f := 71) rfl ?_); refine gl_ (some 10) Try.func71 #[.slice A0_1 l0_1.length c0_1, .slice A0_2 l0_2.length c0_2] ?_; (with_reducible refine (vE.calls k _ _ l0_1 _ _ l0_2 t285 t286 _ ?side1 ?side2 ?side3 ?side4 A2.out).mono ?_); (case side1 => exact cb_ HR0_1 HB); (case side2 => exact HC0_1.out); (case side3 => exact cb_ HR0_2 HB); (case side4 => exact HC0_2.out); rintro e w41 ⟨v287, rfl, ho0, hb⟩; refine ⟨_, rfl, ?_⟩; have HO288 := jA.mk (Kd.jN ho0 (jC (bb1_ HB GE284))); replace BK284 := bk_ BK284 hb; replace HB := jA.mk (jI (bb1_ HB GE284) hb); obtain ⟨hcz42_0, hcz42_1, hcz42_2, hfz42_0, hfz42_1, hfz42_2⟩ := bf3_ BK284))
   go_ret
   exact ⟨ew_, (bb1_ HB GE284)⟩
 ·
  rw [if_neg c3] at H
  have c3b0 := beq_eq_false_iff_ne.mpr c3
  have c3b1 := bne_iff_ne.mpr c3
  obtain rfl := Option.some.inj H
  go_enter Try.func27, Try.ntmps27
  go_wp2_with (first | ((with_reducible refine jX (N := 1) rfl ?_); (try (refine jr (by rfl) ?_; dsimp only)); refine bx_ 1 #[.bool a0_0, .slice A0_1 l0_1.length c0_1, .slice A0_2 l0_2.length c0_2] 44 ?_; intro gb284 hg w43 hbox hb; have BK284 := jA.mk (hbox); have GW284 := jA.mk ((by rw [hg]; exact (jC (bb_ HB)) : w.heap.size ≤ gb284)); have GE284 := GW284; replace HB := bs_ HB hb; clear hb hbox hg; obtain ⟨hcz44_0, hcz44_1, hcz44_2, hfz44_0, hfz44_1, hfz44_2⟩ := bf3_ BK284) | ((with_reducible refine jH (f := 71) rfl ?_); refine gl_ (some 10) Try.func71 #[.slice A0_1 l0_1.length c0_1, .slice A0_2 l0_2.length c0_2] ?_; (with_reducible refine (vE.calls k _ _ l0_1 _ _ l0_2 t285 t286 _ ?side1 ?side2 ?side3 ?side4 A2.out).mono ?_); (case side1 => exact cb_ HR0_1 HB); (case side2 => exact HC0_1.out); (case side3 => exact cb_ HR0_2 HB); (case side4 => exact HC0_2.out); rintro e w45 ⟨v287, rfl, ho0, hb⟩; refine ⟨_, rfl, ?_⟩; have HO288 := jA.mk (Kd.jN ho0 (jC (bb1_ HB GE284))); replace BK284 := bk_ BK284 hb; replace HB := jA.mk (jI (bb1_ HB GE284) hb)))
  go_ret
  exact ⟨ew_, (bb1_ HB GE284)⟩
def vJ.f (k : Nat) (a0_0 : Bool) (l0_1 : List Int) (l0_2 : List Int) (a1_0 : Bool) (l1_1 : List Int) (l1_2 : List Int) : Option (List Int × List Int) := (jl.f k l0_1 l1_2).bind fun t296 => ((jl.f k l1_1 l0_2).bind fun t299 => (some (t296, t299)))
theorem vJ.mono : ∀ a0 a1 a2 a3 a4 a5 k, LeO (vJ.f k a0 a1 a2 a3 a4 a5) (vJ.f (k + 1) a0 a1 a2 a3 a4 a5) := by
 intro a0 a1 a2 a3 a4 a5 k
 unfold vJ.f
 repeat' first
   | (with_reducible exact jl.mono _ _ _)
   | (with_reducible exact LeO.refl _)
   | (with_reducible exact LeO.none _)
   | (with_reducible refine LeO.ite ?_ ?_)
   | (with_reducible refine LeO.bind ?_ (fun _ => ?_))
def vJ.T1 : Bool × List (List Nat × List Nat) := (true, [([], []), ([0], [0]), ([], []), ([2], [2]), ([1, 3], [1, 3]), ([], []), ([5], [5]), ([], []), ([7], [7]), ([6, 8, 4], [6, 8]), ([4, 9, 0, 1, 2, 3, 4], [4]), ([9, 10, 0, 1, 2, 3, 4, 5, 6, 7, 8, 9, 10], [9])])
def vJ.B1 : List Nat := [0, 1, 0, 4, 15, 0, 32, 0, 128, 511, 1023, 2047]
theorem vJ.tab1 : rtab .any (opsOf Try.f86 1) = vJ.T1 := by kernel_rfl
theorem vJ.jIu : jAL vJ.T1.2 vJ.B1 = true := by kernel_rfl
theorem vJ.calls (k : Nat) (a0_0 : Bool) (A0_1 : Option Addr) (c0_1 : Nat) (l0_1 : List Int) (A0_2 : Option Addr) (c0_2 : Nat) (l0_2 : List Int) (a1_0 : Bool) (A1_1 : Option Addr) (c1_1 : Nat) (l1_1 : List Int) (A1_2 : Option Addr) (c1_2 : Nat) (l1_2 : List Int) (r1 : List Int) (r2 : List Int) (w : World) (hr0_1 : Kd.C (Kd.int .u64) w A0_1 l0_1.length l0_1) (hc0_1 : l0_1.length ≤ c0_1) (hr0_2 : Kd.C (Kd.int .u64) w A0_2 l0_2.length l0_2) (hc0_2 : l0_2.length ≤ c0_2) (hr1_1 : Kd.C (Kd.int .u64) w A1_1 l1_1.length l1_1) (hc1_1 : l1_1.length ≤ c1_1) (hr1_2 : Kd.C (Kd.int .u64) w A1_2 l1_2.length l1_2) (hc1_2 : l1_2.length ≤ c1_2) (h : vJ.f k a0_0 l0_1 l0_2 a1_0 l1_1 l1_2 = some (r1, r2)) :
  Calls Try.prog 86 #[.agg #[.bool a0_0, .slice A0_1 l0_1.length c0_1, .slice A0_2 l0_2.length c0_2], .agg #[.bool a1_0, .slice A1_1 l1_1.length c1_1, .slice A1_2 l1_2.length c1_2]] w fun e w' => ∃ v0_ v1_ : Value, e = .returned (.tuple #[v0_, v1_]) ∧ Kd.R (Kd.int .u64) 22 w' w.heap.size (fun k_ => some k_ ≠ (v1_ : Value).ownBlock) v0_ r1 ∧ Kd.R (Kd.int .u64) 22 w' w.heap.size (fun k_ => some k_ ≠ (v0_ : Value).ownBlock) v1_ r2 ∧ Below w.heap.size w w' := by
 have hu44 := Try.underlying44
 have HR0_1 := jA.mk hr0_1
 have HC0_1 := jA.mk hc0_1
 clear hr0_1 hc0_1
 have HR0_2 := jA.mk hr0_2
 have HC0_2 := jA.mk hc0_2
 clear hr0_2 hc0_2
 have HR1_1 := jA.mk hr1_1
 have HC1_1 := jA.mk hc1_1
 clear hr1_1 hc1_1
 have HR1_2 := jA.mk hr1_2
 have HC1_2 := jA.mk hc1_2
 clear hr1_2 hc1_2
 have HB := jA.mk (Below.refl w.heap.size w)
 have H : ((jl.f k l0_1 l1_2).bind fun t296 => ((jl.f k l1_1 l0_2).bind fun t299 => (some (t296, t299)))) = some (r1, r2) := h
 clear h
 obtain ⟨t296, A3, H⟩ := oc_ H
 try dsimp only at H
 obtain ⟨t299, A4, H⟩ := oc_ H
 try dsimp only at H
 simp only [Option.some.injEq, Prod.mk.injEq] at H
 obtain ⟨rfl, rfl⟩ := H
 go_enter Try.func86, Try.ntmps86
 try go_wp2_with (first | ((with_reducible refine jX (N := 2) rfl ?_); refine bx_ 2 #[.bool a0_0, .slice A0_1 l0_1.length c0_1, .slice A0_2 l0_2.length c0_2] 44 ?_; intro gb294 hg w5 hbox hb; have BK294 := jA.mk (hbox); have GW294 := jA.mk ((by rw [hg]; exact (jC (bb_ HB)) : w.heap.size ≤ gb294)); have GE294 := GW294; replace HB := bs_ HB hb; clear hb hbox hg) | ((with_reducible refine jX (N := 3) rfl ?_); refine bx_ 3 #[.bool a1_0, .slice A1_1 l1_1.length c1_1, .slice A1_2 l1_2.length c1_2] 44 ?_; intro gb295 hg w6 hbox hb; have BK295 := jA.mk (hbox); have GW295 := jA.mk ((by rw [hg]; exact (jC (bb1_ HB GE294)) : w.heap.size ≤ gb295)); have GE295 := GW295; replace HB := jA.mk (jI (bb1_ HB GE294) hb); have NB294_295 := jA.mk ((by rw [hg]; exact nlt_ BK294 : gb294 ≠ gb295)); have NB295_294 := jA.mk ((by rw [hg]; exact ngt_ BK294 : gb295 ≠ gb294)); replace BK294 := bk_ BK294 hb; clear hb hbox hg))
 have n0_ := jA.mk (vF BK294.out)
 have n1_ := jA.mk (vF BK295.out)
 have n2_ := jA.mk (zY HB.out)
 clear BK294
 clear BK295
 clear HB
 have BK294 := n0_
 have BK295 := n1_
 have HB := n2_
 clear n0_ n1_ n2_
 refine jAU (n := 12) (S := fun w' => w'.cell? ⟨gb294, 0, none⟩ = some (.bool a0_0) ∧ w'.cell? ⟨gb294, 1, none⟩ = some (.slice A0_1 l0_1.length c0_1) ∧ w'.cell? ⟨gb294, 2, none⟩ = some (.slice A0_2 l0_2.length c0_2) ∧ w'.cell? ⟨gb295, 0, none⟩ = some (.bool a1_0) ∧ w'.cell? ⟨gb295, 1, none⟩ = some (.slice A1_1 l1_1.length c1_1) ∧ w'.cell? ⟨gb295, 2, none⟩ = some (.slice A1_2 l1_2.length c1_2)) (ds := []) #[false, false, false, false, false, false, false, false, false, false, false, false] kr_ rfl rfl ⟨(jB BK294.out 0).trans rfl, (jB BK294.out 1).trans rfl, (jB BK294.out 2).trans rfl, (jB BK295.out 0).trans rfl, (jB BK295.out 1).trans rfl, (jB BK295.out 2).trans rfl⟩ (fun hHeld => ?_); refine qc vJ.tab1 vJ.jIu (fun HT_ HW_ => ?_)
 generalize w6.drew = w7 at BK294 BK295 HB hHeld ⊢
 refine pu_ 0 (some 6) (ba_ 12 1) (jd HT_.out kr_) ?_
 refine pu_ 2 (some 8) (ba_ 12 5) (jd HT_.out kr_) ?_
 refine pu_ 5 (some 11) (ba_ 12 37) (jd HT_.out kr_) ?_
 refine pu_ 7 (some 13) (ba_ 12 165) (jd HT_.out kr_) ?_
 refine tk6_ 1 (some 7) (ba_ 12 167) (jv HT_.out HW_.out kr_) hHeld ?_
 refine tk6_ 3 (some 9) (ba_ 12 175) (jv HT_.out HW_.out kr_) hHeld ?_
 refine tk6_ 6 (some 12) (ba_ 12 239) (jv HT_.out HW_.out kr_) hHeld ?_
 refine tk6_ 8 (some 14) (ba_ 12 495) (jv HT_.out HW_.out kr_) hHeld ?_
 refine one_ (i := 4) (N := some 10) (ba_ 12 511) rfl rfl (vv HT_.out kr_) (by decide) (fun K hK => ?_)
 refine jAQ Try.func88 kr_ rfl #[.slice A0_1 l0_1.length c0_1, .slice A1_2 l1_2.length c1_2] (by rfl) rfl rfl (by (try simp only [List.map_toArray, List.map_cons, List.map_nil]); first | done | rfl | (simp only [List.length_drop, List.length_take]; rfl)) ?_
 with_reducible refine (jl.calls k _ _ l0_1 _ _ l1_2 t296 _ ?side1 ?side2 ?side3 ?side4 A3.out).mono ?_
 (case side1 => exact cb_ HR0_1 HB)
 (case side2 => exact HC0_1.out)
 (case side3 => exact cb_ HR1_2 HB)
 (case side4 => exact HC1_2.out)
 rintro e w8 ⟨v297, rfl, ho0, hb⟩
 refine ⟨_, rfl, ?_⟩
 have n0_ := jA.mk (Kd.jN ho0 (jC (bb2_ HB GE294 GE295)))
 have n1_ := bk_ BK294 hb
 have n2_ := bk_ BK295 hb
 have n3_ := jA.mk (jI (bb2_ HB GE294 GE295) hb)
 clear BK294
 clear BK295
 clear HB
 have HO298 := n0_
 have BK294 := n1_
 have BK295 := n2_
 have HB := n3_
 clear n0_ n1_ n2_ n3_
 (try clear hb)
 (try clear hb2)
 (try clear hk)
 (try clear hi)
 (try clear ho0)
 refine hK.out _ _ ⟨(jB BK294.out 0).trans rfl, (jB BK294.out 1).trans rfl, (jB BK294.out 2).trans rfl, (jB BK295.out 0).trans rfl, (jB BK295.out 1).trans rfl, (jB BK295.out 2).trans rfl⟩ (fun hHeld => ?_)
 clear hK K
 refine ns_ 10 ?_
 refine one_ (i := 9) (N := some 15) (ba_ 12 1023) rfl rfl (vv HT_.out kr_) (by decide) (fun K hK => ?_)
 refine jAQ Try.func88 kr_ rfl #[.slice A1_1 l1_1.length c1_1, .slice A0_2 l0_2.length c0_2] (by rfl) rfl rfl (by (try simp only [List.map_toArray, List.map_cons, List.map_nil]); first | done | rfl | (simp only [List.length_drop, List.length_take]; rfl)) ?_
 with_reducible refine (jl.calls k _ _ l1_1 _ _ l0_2 t299 _ ?side1 ?side2 ?side3 ?side4 A4.out).mono ?_
 (case side1 => exact cb_ HR1_1 HB)
 (case side2 => exact HC1_1.out)
 (case side3 => exact cb_ HR0_2 HB)
 (case side4 => exact HC0_2.out)
 rintro e w9 ⟨v300, rfl, ho0, hb⟩
 refine ⟨_, rfl, ?_⟩
 have n0_ := re_ HO298 ho0 hb
 have n1_ := jA.mk (Kd.jN (Kd.jL ho0 (Kd.R_lt (rR_ HO298))) (jC (bb2_ HB GE294 GE295)))
 have n2_ := bk_ BK294 hb
 have n3_ := bk_ BK295 hb
 have n4_ := jA.mk (jI (bb2_ HB GE294 GE295) hb)
 clear HO298
 clear BK294
 clear BK295
 clear HB
 have HO298 := n0_
 have HO301 := n1_
 have BK294 := n2_
 have BK295 := n3_
 have HB := n4_
 clear n0_ n1_ n2_ n3_ n4_
 (try clear hb)
 (try clear hb2)
 (try clear hk)
 (try clear hi)
 (try clear ho0)
 refine hK.out _ _ ⟨(jB BK294.out 0).trans rfl, (jB BK294.out 1).trans rfl, (jB BK294.out 2).trans rfl, (jB BK295.out 0).trans rfl, (jB BK295.out 1).trans rfl, (jB BK295.out 2).trans rfl⟩ (fun hHeld => ?_)
 clear hK K
 refine ns_ 15 ?_
 refine pu_ 10 (some 4) (ba_ 12 2047) (jd HT_.out kr_) ?_
 refine pu_ 11 (some 5) (ba_ 12 4095) (jd HT_.out kr_) ?_
 refine jAv (jAn HT_.out kr_) ?_
 try go_wp2
 go_ret2
 exact ⟨_, _, ew_, by refine pR_ ?_; exact Kd.jT HO298.out (fun _ hk => hk.2), by refine pR_ ?_; exact Kd.jT HO301.out (fun _ hk => hk.2), (bb2_ HB GE294 GE295)⟩
mutual
def jw.l0 : Nat → List Int → List Int → Int → Int → Option (List Int)
 | 0, _, _, _, _ => none
 | k + 1, x1, x5, x6, x7 => if x7 < (x1.length : Int) then (jw.j1 k x1 x5 x6 x7 true) else (jw.j1 k x1 x5 x6 x7 (decide (x6 > 0)))
def jw.j1 : Nat → List Int → List Int → Int → Int → Bool → Option (List Int)
 | 0, _, _, _, _, _ => none
 | k + 1, x1, x5, x6, x7, x24 => if x24 = true then (if x7 ≥ (x5.length : Int) then (if x5.length < 17592186044416 then ((some (x5 ++ [0] : List Int)).bind fun y314 => (if x7 < (x1.length : Int) then (if 0 ≤ x7 then (if x7 < (y314.length : Int) then (if x6 ≤ 1 then (jw.l0 k x1 (y314.set (x7 : Int).toNat (ad64 (rd y314 x7) (rd x1 x7) x6)) (ac64 (rd y314 x7) (rd x1 x7) x6) (wrap64 (x7 + 1))) else (none)) else (none)) else (none)) else (if 0 ≤ x7 then (if x7 < (y314.length : Int) then (if x6 ≤ 1 then (jw.l0 k x1 (y314.set (x7 : Int).toNat (ad64 (rd y314 x7) 0 x6)) (ac64 (rd y314 x7) 0 x6) (wrap64 (x7 + 1))) else (none)) else (none)) else (none)))) else (none)) else (if x7 < (x1.length : Int) then (if 0 ≤ x7 then (if x7 < (x5.length : Int) then (if x6 ≤ 1 then (jw.l0 k x1 (x5.set (x7 : Int).toNat (ad64 (rd x5 x7) (rd x1 x7) x6)) (ac64 (rd x5 x7) (rd x1 x7) x6) (wrap64 (x7 + 1))) else (none)) else (none)) else (none)) else (if 0 ≤ x7 then (if x7 < (x5.length : Int) then (if x6 ≤ 1 then (jw.l0 k x1 (x5.set (x7 : Int).toNat (ad64 (rd x5 x7) 0 x6)) (ac64 (rd x5 x7) 0 x6) (wrap64 (x7 + 1))) else (none)) else (none)) else (none)))) else ((jQ.f k x5).bind fun t311 => (some t311))
end
def jw.f (k : Nat) (l0 : List Int) (l1 : List Int) : Option (List Int) := (jQ.f k l0).bind fun t302 => (if (t302.length : Int) = 0 then ((vP.f k l1).bind fun t305 => (some t305)) else ((vP.f k l0).bind fun t308 => (jw.l0 k l1 t308 0 0)))
theorem jw.vS : ∀ k, (∀ y0 y1 y2 y3, LeO (jw.l0 k y0 y1 y2 y3) (jw.l0 (k + 1) y0 y1 y2 y3)) ∧ (∀ y0 y1 y2 y3 y4, LeO (jw.j1 k y0 y1 y2 y3 y4) (jw.j1 (k + 1) y0 y1 y2 y3 y4))
 | 0 => ⟨fun _ _ _ _ r h => by simp [jw.l0] at h, fun _ _ _ _ _ r h => by simp [jw.j1] at h⟩
 | k + 1 => by
  obtain ⟨ih0, ih1⟩ := jw.vS k
  refine ⟨?_, ?_⟩ <;> (intros; first | unfold jw.l0 | unfold jw.j1) <;> repeat' first
   | (with_reducible exact ih0 _ _ _ _)
   | (with_reducible exact ih1 _ _ _ _ _)
   | (with_reducible exact vP.mono _ _)
   | (with_reducible exact jQ.mono _ _)
   | (with_reducible exact LeO.refl _)
   | (with_reducible exact LeO.none _)
   | (with_reducible refine LeO.ite ?_ ?_)
   | (with_reducible refine LeO.bind ?_ (fun _ => ?_))
theorem jw.mono : ∀ a0 a1 k, LeO (jw.f k a0 a1) (jw.f (k + 1) a0 a1) := by
 intro a0 a1 k
 obtain ⟨ih0, ih1⟩ := jw.vS k
 unfold jw.f
 repeat' first
   | (with_reducible exact ih0 _ _ _ _)
   | (with_reducible exact ih1 _ _ _ _ _)
   | (with_reducible exact vP.mono _ _)
   | (with_reducible exact jQ.mono _ _)
   | (with_reducible exact LeO.refl _)
   | (with_reducible exact LeO.none _)
   | (with_reducible refine LeO.ite ?_ ?_)
   | (with_reducible refine LeO.bind ?_ (fun _ => ?_))
theorem jw.calls (k : Nat) (P0_ : Nat → Prop) (A0 : Option Addr) (c0 : Nat) (l0 : List Int) (A1 : Option Addr) (c1 : Nat) (l1 : List Int) (r : List Int) (w : World) (hs0 : Kd.V (Kd.int .u64) 22 w w.heap.size (fun k_ => P0_ k_) (.slice A0 l0.length c0) l0) (hr1 : Kd.C (Kd.int .u64) w A1 l1.length l1) (hc1 : l1.length ≤ c1) (h : jw.f k l0 l1 = some r) :
  Calls Try.prog 108 #[.slice A0 l0.length c0, .slice A1 l1.length c1] w fun e w' => ∃ v0_ : Value, e = .returned (v0_) ∧ Kd.V (Kd.int .u64) 22 w' w.heap.size (fun k_ => (P0_ k_ ∨ w.heap.size ≤ k_)) v0_ r ∧ Below w.heap.size w w' := by
 have HO0 := jA.mk (show Kd.V (Kd.int .u64) 22 w w.heap.size (fun k_ => (P0_ k_ ∨ w.heap.size ≤ k_)) (.slice A0 l0.length c0) l0 from Kd.vZ hs0 (fun k_ hk => .inl hk))
 have HR1 := jA.mk hr1
 have HC1 := jA.mk hc1
 clear hr1 hc1
 have HB := jA.mk (Below.refl w.heap.size w)
 have H : ((jQ.f k l0).bind fun t302 => (if (t302.length : Int) = 0 then ((vP.f k l1).bind fun t305 => (some t305)) else ((vP.f k l0).bind fun t308 => (jw.l0 k l1 t308 0 0)))) = some r := h
 clear h
 obtain ⟨t302, A3, H⟩ := oc_ H
 try dsimp only at H
 by_cases c4 : (t302.length : Int) = 0
 ·
  rw [if_pos c4] at H
  have c4b0 := beq_iff_eq.mpr c4
  have c4b1 := bne_eq_false_iff_eq.mpr c4
  clear c4
  replace H := ob_ H
  obtain ⟨t305, A50, H⟩ := H
  replace H : (some t305) = some r := H
  have A5 := jA.mk A50
  clear A50
  obtain rfl := Option.some.inj H
  go_enter Try.func108, Try.ntmps108
  go_wp2_with (first | ((with_reducible refine jH (f := 110) rfl ?_); refine gl_ (some 10) Try.func110 #[.slice A0 l0.length c0] ?_; (with_reducible refine (jQ.calls k (fun k_ => (P0_ k_ ∨ w.heap.size ≤ k_)) _ _ l0 t302 _ ?side1 A3.out).mono ?_); (case side1 => exact HO0.out); rintro e w6 ⟨v303, rfl, ho0, hb⟩; refine ⟨_, rfl, ?_⟩; replace HO0 := jA.mk (Kd.qy (rV_ HO0) hb); have HO304 := jA.mk (Kd.zh (Kd.vZ (ok' := fun k_ => (P0_ k_ ∨ w.heap.size ≤ k_)) ho0 (fun k_ hk_ => Or.elim hk_ (fun hs_ => hs_) (fun hn_ => (.inr (Nat.le_trans (jC (bb_ HB)) hn_))))) (jC (bb_ HB))); replace HB := bs_ HB hb; obtain ⟨Ao7, co7, rfl⟩ := Kd.zR HO304.out) | ((with_reducible refine jH (f := 96) rfl ?_); refine gl_ (some 14) Try.func96 #[.slice A1 l1.length c1] ?_; (with_reducible refine (vP.calls k _ _ l1 t305 _ ?side1 ?side2 A5.out).mono ?_); (case side1 => exact cb_ HR1 HB); (case side2 => exact HC1.out); rintro e w8 ⟨v306, rfl, ho0, hb⟩; refine ⟨_, rfl, ?_⟩; replace HO0 := jA.mk (Kd.qA (rV_ HO0) (Kd.vB ho0) hb); replace HO304 := jA.mk (Kd.qA (rV_ HO304) (Kd.vB ho0) hb); have HO307 := jA.mk (Kd.jN (Kd.jBm (M := fun k_ => (w.heap.size ≤ k_)) ho0 (jC (bb_ HB)) (fun k_ h_ => h_)) (jC (bb_ HB))); replace HB := bs_ HB hb))
  go_ret
  exact ⟨_, ew_, Kd.vZ (Kd.R_V (by refine pR_ ?_; exact Kd.jT HO307.out (fun _ hk => hk.1))) (fun k_ hk => by first | exact ⟨(.inr (hk.1)), hk.2⟩ | exact (.inr (hk))), (bb_ HB)⟩
 ·
  rw [if_neg c4] at H
  have c4b0 := beq_eq_false_iff_ne.mpr c4
  have c4b1 := bne_iff_ne.mpr c4
  have c4b2 : ¬ (t302 = []) := fun h_ => c4 (by rw [h_]; rfl)
  obtain ⟨t308, A9, H⟩ := oc_ H
  try dsimp only at H
  have H' := jA.mk H
  clear H
  go_enter Try.func108, Try.ntmps108
  go_wp2_with (first | ((with_reducible refine jH (f := 110) rfl ?_); refine gl_ (some 10) Try.func110 #[.slice A0 l0.length c0] ?_; (with_reducible refine (jQ.calls k (fun k_ => (P0_ k_ ∨ w.heap.size ≤ k_)) _ _ l0 t302 _ ?side1 A3.out).mono ?_); (case side1 => exact HO0.out); rintro e w10 ⟨v303, rfl, ho0, hb⟩; refine ⟨_, rfl, ?_⟩; replace HO0 := jA.mk (Kd.qy (rV_ HO0) hb); have HO304 := jA.mk (Kd.zh (Kd.vZ (ok' := fun k_ => (P0_ k_ ∨ w.heap.size ≤ k_)) ho0 (fun k_ hk_ => Or.elim hk_ (fun hs_ => hs_) (fun hn_ => (.inr (Nat.le_trans (jC (bb_ HB)) hn_))))) (jC (bb_ HB))); replace HB := bs_ HB hb; obtain ⟨Ao11, co11, rfl⟩ := Kd.zR HO304.out) | ((with_reducible refine jH (f := 96) rfl ?_); refine gl_ (some 16) Try.func96 #[.slice A0 l0.length c0] ?_; (with_reducible refine (vP.calls k _ _ l0 t308 _ ?side1 ?side2 A9.out).mono ?_); (case side1 => repeat (first | exact (Kd.vD HO0.out).2.2 | (with_reducible refine Kd.zJ ?_ _) | (with_reducible refine Kd.zU ?_ _) | (with_reducible refine Kd.zx ?_))); (case side2 => exact (Kd.vD HO0.out).2.1); rintro e w12 ⟨v309, rfl, ho0, hb⟩; refine ⟨_, rfl, ?_⟩; replace HO0 := jA.mk (Kd.qA (rV_ HO0) (Kd.vB ho0) hb); replace HO304 := jA.mk (Kd.qA (rV_ HO304) (Kd.vB ho0) hb); have HO310 := jA.mk (Kd.jN (Kd.jBm (M := fun k_ => (w.heap.size ≤ k_)) ho0 (jC (bb_ HB)) (fun k_ h_ => h_)) (jC (bb_ HB))); replace HB := bs_ HB hb))
  go_loopg [5, 6, 7] k (fun kq v5 v6 v7 w' => ∃ (x5_1 : List Int) (x6_1 : Int) (x7_1 : Int), v6 = .int .u64 x6_1 ∧ v7 = .int .i64 x7_1 ∧ jA (jw.l0 kq l1 x5_1 x6_1 x7_1 = some r) ∧ jA (kq ≤ k) ∧ jA (Kd.R (Kd.int .u64) 22 w' w.heap.size (fun k_ => (w.heap.size ≤ k_)) v5 x5_1) ∧ jA (Below w.heap.size w w'))
  case atStart => exact ⟨(t308), (0), (0), sd_, sd_, H', ⟨Nat.le_refl _⟩, ⟨by (with_reducible repeat (first | apply Kd.zM | apply Kd.zT | apply Kd.zZ)); exact Kd.jT HO310.out (fun _ hk => hk.1)⟩, ⟨(bb_ HB)⟩⟩
  case round =>
   clear H'
   try clear c1
   try clear p2
   try clear c4
   try clear c4b0
   try clear c4b1
   try clear c4b2
   try clear c9
   try clear c10
   try clear c11
   obtain ⟨x5_1, x6_1, x7_1, rfl, rfl, HA, HK1, HO_5, HB⟩ := hrel
   cases gk with
   | zero => exact absurd HA.out (by simp [jw.l0])
   | succ k1 =>
    have H := HA.out
    clear HA
    simp only [jw.l0] at H
    have HC13 := jA.mk H
    clear H
    go_upto_region 6 with (fail)
    go_cut [24] (fun v24 wc => ∃ (kq : Nat) (x24_12 : Bool), v24 = .bool x24_12 ∧ jA (jw.j1 kq l1 x5_1 x6_1 x7_1 x24_12 = some r) ∧ jA (kq ≤ k1) ∧ jA (Kd.R (Kd.int .u64) 22 wc w.heap.size (fun k_ => (w.heap.size ≤ k_)) u5 x5_1) ∧ jA (Below w.heap.size w wc))
    case first =>
     have H := HC13.out
     clear HC13
     by_cases c14 : x7_1 < (l1.length : Int)
     ·
      rw [if_pos c14] at H
      have c14b0 := decide_eq_true c14
      clear c14
      (first | rw [c14b0] | (simp only [qZ, jAd]; rw [c14b0]) | skip)
      have H' := jA.mk H
      clear H
      go_wp2
      go_meet
      case rel => exact ⟨_, (true), sd_, H', ⟨by have := HK1.out; first | omega | exact Nat.le_refl _⟩, ⟨(rR_ HO_5)⟩, ⟨(bb_ HB)⟩⟩
     ·
      rw [if_neg c14] at H
      have c14b0 := decide_eq_false c14
      clear c14
      (first | rw [c14b0] | (simp only [qZ, jAd]; rw [c14b0]) | skip)
      have H' := jA.mk H
      clear H
      go_wp2
      go_meet
      case rel => exact ⟨_, (decide (x6_1 > 0)), sd_, H', ⟨by have := HK1.out; first | omega | exact Nat.le_refl _⟩, ⟨(rR_ HO_5)⟩, ⟨(bb_ HB)⟩⟩
    case rest =>
     clear HC13
     try clear c1
     try clear p2
     try clear c4
     try clear c4b0
     try clear c4b1
     try clear c4b2
     try clear c9
     try clear c10
     try clear c11
     try clear c14
     try clear c14b0
     try clear p2
     obtain ⟨kq, x24_12, rfl, HA, HJ12, HO_5, HB⟩ := hcut
     cases kq with
     | zero => exact absurd HA.out (by simp [jw.j1])
     | succ kj12 =>
      have H := HA.out
      clear HA
      simp only [jw.j1] at H
      by_cases c15 : x24_12 = true
      ·
       subst c15
       replace H := ip_ H
       by_cases c16 : x7_1 ≥ (x5_1.length : Int)
       ·
        rw [if_pos c16] at H
        have c16b0 := decide_eq_true c16
        clear c16
        by_cases c17 : x5_1.length < 17592186044416
        ·
         rw [if_pos c17] at H
         have LMc17 := jA.mk c17
         clear c17
         obtain ⟨y314, hy314⟩ : ∃ y_ : List Int, y_ = (x5_1 ++ [0]) := ⟨_, rfl⟩
         replace H : (if x7_1 < (l1.length : Int) then (if 0 ≤ x7_1 then (if x7_1 < (y314.length : Int) then (if x6_1 ≤ 1 then (jw.l0 kj12 l1 (y314.set (x7_1 : Int).toNat (ad64 (rd y314 x7_1) (rd l1 x7_1) x6_1)) (ac64 (rd y314 x7_1) (rd l1 x7_1) x6_1) (wrap64 (x7_1 + 1))) else (none)) else (none)) else (none)) else (if 0 ≤ x7_1 then (if x7_1 < (y314.length : Int) then (if x6_1 ≤ 1 then (jw.l0 kj12 l1 (y314.set (x7_1 : Int).toNat (ad64 (rd y314 x7_1) 0 x6_1)) (ac64 (rd y314 x7_1) 0 x6_1) (wrap64 (x7_1 + 1))) else (none)) else (none)) else (none))) = some r := by first | (rw [hy314]; with_reducible exact H) | (have H2_ := (Option.bind_some _ _).symm.trans H; rw [hy314]; with_reducible exact H2_) | (with_reducible exact hs_ H) | with_reducible exact H | (rw [hy314]; exact H) | exact H
         have Ny314 := jA.mk hy314
         clear hy314
         by_cases c18 : x7_1 < (l1.length : Int)
         ·
          rw [if_pos c18] at H
          have c18b0 := decide_eq_true c18
          clear c18
          by_cases c19 : 0 ≤ x7_1
          ·
           rw [if_pos c19] at H
           have c19b0 := decide_eq_true c19
           clear c19
           by_cases c20 : x7_1 < (y314.length : Int)
           ·
            rw [if_pos c20] at H
            have c20b0 := decide_eq_true c20
            clear c20
            by_cases c21 : x6_1 ≤ 1
            ·
             rw [if_pos c21] at H
             have c21b0 := decide_eq_true c21
             clear c21
             obtain ⟨y319, hy319⟩ : ∃ y_ : List Int, y_ = (y314.set (x7_1 : Int).toNat (ad64 (rd y314 x7_1) (rd l1 x7_1) x6_1)) := ⟨_, rfl⟩
             replace H : (jw.l0 kj12 l1 y319 (ac64 (rd y314 x7_1) (rd l1 x7_1) x6_1) (wrap64 (x7_1 + 1))) = some r := by first | (rw [hy319]; with_reducible exact H) | (have H2_ := (Option.bind_some _ _).symm.trans H; rw [hy319]; with_reducible exact H2_) | (with_reducible exact hs_ H) | with_reducible exact H | (rw [hy319]; exact H) | exact H
             have Ny319 := jA.mk hy319
             clear hy319
             have H' := jA.mk H
             clear H
             obtain ⟨Ao23, co23, eo23⟩ := Kd.jV HO_5.out
             subst eo23
             go_wp2_with (first | ((with_reducible refine vW (b := .append) (xs := #[.tmp 31, .tmp 32]) rfl ?_); at_builtin; refine Kd.qb (Kd.int .u64) (w0 := w) w.heap.size rfl (.tmp 31) (.tmp 32) 35 22 (.int .u64 0) 8 rfl Try.underlying35 qI rfl (by decide) (by omega) (.slice Ao23 x5_1.length co23) x5_1 0 [.int .u64 0] (fun k_ => (w.heap.size ≤ k_)) (fun _ => False) rfl rfl ?aP (fun _ hk => hk.elim) ?aF ?aO ?aB ?aS ?aL ?_; (case aP => exact rfl); (case aB => exact (bb_ HB)); (case aF => exact (fun k_ hk => (Nat.le_trans (jC (bb_ HB)) hk))); (case aO => exact (rR_ HO_5)); (case aS => exact (jC (bb_ HB))); (case aL => have := LMc17.out; omega); intro v315 w24 ho hb hg hat; rw [← Ny314.out] at ho; replace HB := jA.mk (hb); have HO316 := jA.mk (ho); clear HO_5 ho hb hg hat; have p317 : 0 ≤ (x7_1 : Int) := of_decide_eq_true am_; have q317 : x7_1 < (l1.length : Int) := of_decide_eq_true am_; obtain ⟨ad317, e317, hx317_0⟩ := Kd.vw HR1.out x7_1 p317 q317; cases e317; replace hx317_0 := (HB.out.cell (World.block_lt_of_cell? w _ hx317_0)).trans hx317_0; replace p317 := eq_true p317; replace q317 := eq_true q317; obtain ⟨Ao25, co25, rfl⟩ := Kd.jV HO316.out; have p318 : 0 ≤ (x7_1 : Int) := of_decide_eq_true am_; have q318 : x7_1 < (y314.length : Int) := of_decide_eq_true am_; obtain ⟨ad318, e318, hx318_0⟩ := Kd.vw (Kd.jE HO316.out).2.2 x7_1 p318 q318; cases e318; replace p318 := eq_true p318; replace q318 := eq_true q318; have p22 : 0 ≤ (x7_1 : Int) := of_decide_eq_true am_; have q22 : (x7_1 : Int) < ((y314.length : Int) : Int) := of_decide_eq_true am_; obtain ⟨go22, co22, eo22, gb22, gl22, cl22, HG22⟩ := Kd.jAB HO316.out (by omega); (first | cases eo22 | (injection eo22 with ea_ en_ ec_; (first | subst ea_ | (injection ea_ with ea_; subst ea_)); subst ec_; clear en_)); have GB22 := jA.mk gb22; have GG22 := jA.mk HG22; clear gb22 gl22 HG22; (first | simp only [add_plain] at hx318_0 | skip); obtain ⟨hx22_0, hf22_0⟩ := Kd.zK 0 HO316.out (x7_1 : Int) p22 q22; replace p22 := eq_true p22; replace q22 := eq_true q22; obtain ⟨hy26_, hz26_⟩ := Kd.zK 0 HO316.out (x7_1 : Int) (of_decide_eq_true am_) (of_decide_eq_true am_); have HP26 := Kd.qw HO316.out (x7_1 : Int) (ad64 (rd y314 x7_1) (rd l1 x7_1) x6_1)) | ((with_reducible refine zu (t := 22) (p := 54) rfl ?_); refine zX (t := 22) (p := 54) (v := ?vo_w27) (w1 := (w24.setCell ⟨go22, (x7_1 : Int).toNat, none⟩ (.int .u64 (ad64 (rd y314 x7_1) (rd l1 x7_1) x6_1)))) ?hg ?ho ?hn ?hr ?_; (case ho => rfl); (case hg => rfl); (case hn => rfl); (case hr => exact gs_); intro w27 hw; have hg : w24.grownBy w27 (some go22) := (by rw [hw]; exact HP26.2); have hp_ : Kd.R (Kd.int .u64) 22 w27 w.heap.size (fun k_ => (w.heap.size ≤ k_)) (.slice (some ⟨go22, 0, none⟩) y314.length co25) y319 := (by rw [hw, Ny319.out]; exact HP26.1); clear HP26; replace HO316 := jA.mk (hp_); replace HB := jA.mk ((by rw [hw]; exact vI (HB.out) GB22.out : Below w.heap.size w w27)); clear hg hw hp_))
             go_roundg kj12
             case measure => have := HK1.out; have := HJ12.out; omega
             case rel => exact ⟨(y319), (ac64 (rd y314 x7_1) (rd l1 x7_1) x6_1), (wrap64 (x7_1 + 1)), sd_, sd_, H', ⟨by have := HK1.out; have := HJ12.out; omega⟩, ⟨(rR_ HO316)⟩, ⟨(bb_ HB)⟩⟩
            ·
             rw [if_neg c21] at H
             exact absurd H (by simp)
           ·
            rw [if_neg c20] at H
            exact absurd H (by simp)
          ·
           rw [if_neg c19] at H
           exact absurd H (by simp)
         ·
          rw [if_neg c18] at H
          have c18b0 := decide_eq_false c18
          clear c18
          by_cases c28 : 0 ≤ x7_1
          ·
           rw [if_pos c28] at H
           have c28b0 := decide_eq_true c28
           clear c28
           by_cases c29 : x7_1 < (y314.length : Int)
           ·
            rw [if_pos c29] at H
            have c29b0 := decide_eq_true c29
            clear c29
            by_cases c30 : x6_1 ≤ 1
            ·
             rw [if_pos c30] at H
             have c30b0 := decide_eq_true c30
             clear c30
             obtain ⟨y321, hy321⟩ : ∃ y_ : List Int, y_ = (y314.set (x7_1 : Int).toNat (ad64 (rd y314 x7_1) 0 x6_1)) := ⟨_, rfl⟩
             replace H : (jw.l0 kj12 l1 y321 (ac64 (rd y314 x7_1) 0 x6_1) (wrap64 (x7_1 + 1))) = some r := by first | (rw [hy321]; with_reducible exact H) | (have H2_ := (Option.bind_some _ _).symm.trans H; rw [hy321]; with_reducible exact H2_) | (with_reducible exact hs_ H) | with_reducible exact H | (rw [hy321]; exact H) | exact H
             have Ny321 := jA.mk hy321
             clear hy321
             have H' := jA.mk H
             clear H
             obtain ⟨Ao32, co32, eo32⟩ := Kd.jV HO_5.out
             subst eo32
             go_wp2_with (first | ((with_reducible refine vW (b := .append) (xs := #[.tmp 31, .tmp 32]) rfl ?_); at_builtin; refine Kd.qb (Kd.int .u64) (w0 := w) w.heap.size rfl (.tmp 31) (.tmp 32) 35 22 (.int .u64 0) 8 rfl Try.underlying35 qI rfl (by decide) (by omega) (.slice Ao32 x5_1.length co32) x5_1 0 [.int .u64 0] (fun k_ => (w.heap.size ≤ k_)) (fun _ => False) rfl rfl ?aP (fun _ hk => hk.elim) ?aF ?aO ?aB ?aS ?aL ?_; (case aP => exact rfl); (case aB => exact (bb_ HB)); (case aF => exact (fun k_ hk => (Nat.le_trans (jC (bb_ HB)) hk))); (case aO => exact (rR_ HO_5)); (case aS => exact (jC (bb_ HB))); (case aL => have := LMc17.out; omega); intro v315 w33 ho hb hg hat; rw [← Ny314.out] at ho; replace HB := jA.mk (hb); have HO316 := jA.mk (ho); clear HO_5 ho hb hg hat; obtain ⟨Ao34, co34, rfl⟩ := Kd.jV HO316.out; have p320 : 0 ≤ (x7_1 : Int) := of_decide_eq_true am_; have q320 : x7_1 < (y314.length : Int) := of_decide_eq_true am_; obtain ⟨ad320, e320, hx320_0⟩ := Kd.vw (Kd.jE HO316.out).2.2 x7_1 p320 q320; cases e320; replace p320 := eq_true p320; replace q320 := eq_true q320; have p31 : 0 ≤ (x7_1 : Int) := of_decide_eq_true am_; have q31 : (x7_1 : Int) < ((y314.length : Int) : Int) := of_decide_eq_true am_; obtain ⟨go31, co31, eo31, gb31, gl31, cl31, HG31⟩ := Kd.jAB HO316.out (by omega); (first | cases eo31 | (injection eo31 with ea_ en_ ec_; (first | subst ea_ | (injection ea_ with ea_; subst ea_)); subst ec_; clear en_)); have GB31 := jA.mk gb31; have GG31 := jA.mk HG31; clear gb31 gl31 HG31; (first | simp only [add_plain] at hx320_0 | skip); obtain ⟨hx31_0, hf31_0⟩ := Kd.zK 0 HO316.out (x7_1 : Int) p31 q31; replace p31 := eq_true p31; replace q31 := eq_true q31; obtain ⟨hy35_, hz35_⟩ := Kd.zK 0 HO316.out (x7_1 : Int) (of_decide_eq_true am_) (of_decide_eq_true am_); have HP35 := Kd.qw HO316.out (x7_1 : Int) (ad64 (rd y314 x7_1) 0 x6_1)) | ((with_reducible refine zu (t := 22) (p := 54) rfl ?_); refine zX (t := 22) (p := 54) (v := ?vo_w36) (w1 := (w33.setCell ⟨go31, (x7_1 : Int).toNat, none⟩ (.int .u64 (ad64 (rd y314 x7_1) 0 x6_1)))) ?hg ?ho ?hn ?hr ?_; (case ho => rfl); (case hg => rfl); (case hn => rfl); (case hr => exact gs_); intro w36 hw; have hg : w33.grownBy w36 (some go31) := (by rw [hw]; exact HP35.2); have hp_ : Kd.R (Kd.int .u64) 22 w36 w.heap.size (fun k_ => (w.heap.size ≤ k_)) (.slice (some ⟨go31, 0, none⟩) y314.length co34) y321 := (by rw [hw, Ny321.out]; exact HP35.1); clear HP35; replace HO316 := jA.mk (hp_); replace HB := jA.mk ((by rw [hw]; exact vI (HB.out) GB31.out : Below w.heap.size w w36)); clear hg hw hp_))
             go_roundg kj12
             case measure => have := HK1.out; have := HJ12.out; omega
             case rel => exact ⟨(y321), (ac64 (rd y314 x7_1) 0 x6_1), (wrap64 (x7_1 + 1)), sd_, sd_, H', ⟨by have := HK1.out; have := HJ12.out; omega⟩, ⟨(rR_ HO316)⟩, ⟨(bb_ HB)⟩⟩
            ·
             rw [if_neg c30] at H
             exact absurd H (by simp)
           ·
            rw [if_neg c29] at H
            exact absurd H (by simp)
          ·
           rw [if_neg c28] at H
           exact absurd H (by simp)
        ·
         rw [if_neg c17] at H
         exact absurd H (by simp)
       ·
        rw [if_neg c16] at H
        have c16b0 := decide_eq_false c16
        clear c16
        by_cases c37 : x7_1 < (l1.length : Int)
        ·
         rw [if_pos c37] at H
         have c37b0 := decide_eq_true c37
         clear c37
         by_cases c38 : 0 ≤ x7_1
         ·
          rw [if_pos c38] at H
          have c38b0 := decide_eq_true c38
          clear c38
          by_cases c39 : x7_1 < (x5_1.length : Int)
          ·
           rw [if_pos c39] at H
           have c39b0 := decide_eq_true c39
           clear c39
           by_cases c40 : x6_1 ≤ 1
           ·
            rw [if_pos c40] at H
            have c40b0 := decide_eq_true c40
            clear c40
            obtain ⟨y324, hy324⟩ : ∃ y_ : List Int, y_ = (x5_1.set (x7_1 : Int).toNat (ad64 (rd x5_1 x7_1) (rd l1 x7_1) x6_1)) := ⟨_, rfl⟩
            replace H : (jw.l0 kj12 l1 y324 (ac64 (rd x5_1 x7_1) (rd l1 x7_1) x6_1) (wrap64 (x7_1 + 1))) = some r := by first | (rw [hy324]; with_reducible exact H) | (have H2_ := (Option.bind_some _ _).symm.trans H; rw [hy324]; with_reducible exact H2_) | (with_reducible exact hs_ H) | with_reducible exact H | (rw [hy324]; exact H) | exact H
            have Ny324 := jA.mk hy324
            clear hy324
            have H' := jA.mk H
            clear H
            obtain ⟨Ao42, co42, eo42⟩ := Kd.jV HO_5.out
            subst eo42
            have p322 : 0 ≤ (x7_1 : Int) := of_decide_eq_true am_
            have q322 : x7_1 < (l1.length : Int) := of_decide_eq_true am_
            obtain ⟨ad322, e322, hx322_0⟩ := Kd.vw HR1.out x7_1 p322 q322
            cases e322
            replace hx322_0 := (HB.out.cell (World.block_lt_of_cell? w _ hx322_0)).trans hx322_0
            replace p322 := eq_true p322
            replace q322 := eq_true q322
            have p323 : 0 ≤ (x7_1 : Int) := of_decide_eq_true am_
            have q323 : x7_1 < (x5_1.length : Int) := of_decide_eq_true am_
            obtain ⟨ad323, e323, hx323_0⟩ := Kd.vw (Kd.jE HO_5.out).2.2 x7_1 p323 q323
            cases e323
            replace p323 := eq_true p323
            replace q323 := eq_true q323
            have p41 : 0 ≤ (x7_1 : Int) := of_decide_eq_true am_
            have q41 : (x7_1 : Int) < ((x5_1.length : Int) : Int) := of_decide_eq_true am_
            obtain ⟨go41, co41, eo41, gb41, gl41, cl41, HG41⟩ := Kd.jAB HO_5.out (by omega)
            (first | cases eo41 | (injection eo41 with ea_ en_ ec_; (first | subst ea_ | (injection ea_ with ea_; subst ea_)); subst ec_; clear en_))
            have GB41 := jA.mk gb41
            have GG41 := jA.mk HG41
            clear gb41 gl41 HG41
            (first | simp only [add_plain] at hx323_0 | skip)
            obtain ⟨hx41_0, hf41_0⟩ := Kd.zK 0 HO_5.out (x7_1 : Int) p41 q41
            replace p41 := eq_true p41
            replace q41 := eq_true q41
            have HP43 := Kd.qw HO_5.out (x7_1 : Int) (ad64 (rd x5_1 x7_1) (rd l1 x7_1) x6_1)
            go_wp2_with (first | ((with_reducible refine zu (t := 22) (p := 54) rfl ?_); refine zX (t := 22) (p := 54) (v := ?vo_w44) (w1 := (wc.setCell ⟨go41, (x7_1 : Int).toNat, none⟩ (.int .u64 (ad64 (rd x5_1 x7_1) (rd l1 x7_1) x6_1)))) ?hg ?ho ?hn ?hr ?_; (case ho => rfl); (case hg => rfl); (case hn => rfl); (case hr => exact gs_); intro w44 hw; have hg : wc.grownBy w44 (some go41) := (by rw [hw]; exact HP43.2); have hp_ : Kd.R (Kd.int .u64) 22 w44 w.heap.size (fun k_ => (w.heap.size ≤ k_)) (.slice (some ⟨go41, 0, none⟩) x5_1.length co42) y324 := (by rw [hw, Ny324.out]; exact HP43.1); clear HP43; replace HO_5 := jA.mk (hp_); replace HB := jA.mk ((by rw [hw]; exact vI (HB.out) GB41.out : Below w.heap.size w w44)); clear hg hw hp_))
            go_roundg kj12
            case measure => have := HK1.out; have := HJ12.out; omega
            case rel => exact ⟨(y324), (ac64 (rd x5_1 x7_1) (rd l1 x7_1) x6_1), (wrap64 (x7_1 + 1)), sd_, sd_, H', ⟨by have := HK1.out; have := HJ12.out; omega⟩, ⟨(rR_ HO_5)⟩, ⟨(bb_ HB)⟩⟩
           ·
            rw [if_neg c40] at H
            exact absurd H (by simp)
          ·
           rw [if_neg c39] at H
           exact absurd H (by simp)
         ·
          rw [if_neg c38] at H
          exact absurd H (by simp)
        ·
         rw [if_neg c37] at H
         have c37b0 := decide_eq_false c37
         clear c37
         by_cases c45 : 0 ≤ x7_1
         ·
          rw [if_pos c45] at H
          have c45b0 := decide_eq_true c45
          clear c45
          by_cases c46 : x7_1 < (x5_1.length : Int)
          ·
           rw [if_pos c46] at H
           have c46b0 := decide_eq_true c46
           clear c46
           by_cases c47 : x6_1 ≤ 1
           ·
            rw [if_pos c47] at H
            have c47b0 := decide_eq_true c47
            clear c47
            obtain ⟨y326, hy326⟩ : ∃ y_ : List Int, y_ = (x5_1.set (x7_1 : Int).toNat (ad64 (rd x5_1 x7_1) 0 x6_1)) := ⟨_, rfl⟩
            replace H : (jw.l0 kj12 l1 y326 (ac64 (rd x5_1 x7_1) 0 x6_1) (wrap64 (x7_1 + 1))) = some r := by first | (rw [hy326]; with_reducible exact H) | (have H2_ := (Option.bind_some _ _).symm.trans H; rw [hy326]; with_reducible exact H2_) | (with_reducible exact hs_ H) | with_reducible exact H | (rw [hy326]; exact H) | exact H
            have Ny326 := jA.mk hy326
            clear hy326
            have H' := jA.mk H
            clear H
            obtain ⟨Ao49, co49, eo49⟩ := Kd.jV HO_5.out
            subst eo49
            have p325 : 0 ≤ (x7_1 : Int) := of_decide_eq_true am_
            have q325 : x7_1 < (x5_1.length : Int) := of_decide_eq_true am_
            obtain ⟨ad325, e325, hx325_0⟩ := Kd.vw (Kd.jE HO_5.out).2.2 x7_1 p325 q325
            cases e325
            replace p325 := eq_true p325
            replace q325 := eq_true q325
            have p48 : 0 ≤ (x7_1 : Int) := of_decide_eq_true am_
            have q48 : (x7_1 : Int) < ((x5_1.length : Int) : Int) := of_decide_eq_true am_
            obtain ⟨go48, co48, eo48, gb48, gl48, cl48, HG48⟩ := Kd.jAB HO_5.out (by omega)
            (first | cases eo48 | (injection eo48 with ea_ en_ ec_; (first | subst ea_ | (injection ea_ with ea_; subst ea_)); subst ec_; clear en_))
            have GB48 := jA.mk gb48
            have GG48 := jA.mk HG48
            clear gb48 gl48 HG48
            (first | simp only [add_plain] at hx325_0 | skip)
            obtain ⟨hx48_0, hf48_0⟩ := Kd.zK 0 HO_5.out (x7_1 : Int) p48 q48
            replace p48 := eq_true p48
            replace q48 := eq_true q48
            have HP50 := Kd.qw HO_5.out (x7_1 : Int) (ad64 (rd x5_1 x7_1) 0 x6_1)
            go_wp2_with (first | ((with_reducible refine zu (t := 22) (p := 54) rfl ?_); refine zX (t := 22) (p := 54) (v := ?vo_w51) (w1 := (wc.setCell ⟨go48, (x7_1 : Int).toNat, none⟩ (.int .u64 (ad64 (rd x5_1 x7_1) 0 x6_1)))) ?hg ?ho ?hn ?hr ?_; (case ho => rfl); (case hg => rfl); (case hn => rfl); (case hr => exact gs_); intro w51 hw; have hg : wc.grownBy w51 (some go48) := (by rw [hw]; exact HP50.2); have hp_ : Kd.R (Kd.int .u64) 22 w51 w.heap.size (fun k_ => (w.heap.size ≤ k_)) (.slice (some ⟨go48, 0, none⟩) x5_1.length co49) y326 := (by rw [hw, Ny326.out]; exact HP50.1); clear HP50; replace HO_5 := jA.mk (hp_); replace HB := jA.mk ((by rw [hw]; exact vI (HB.out) GB48.out : Below w.heap.size w w51)); clear hg hw hp_))
            go_roundg kj12
            case measure => have := HK1.out; have := HJ12.out; omega
            case rel => exact ⟨(y326), (ac64 (rd x5_1 x7_1) 0 x6_1), (wrap64 (x7_1 + 1)), sd_, sd_, H', ⟨by have := HK1.out; have := HJ12.out; omega⟩, ⟨(rR_ HO_5)⟩, ⟨(bb_ HB)⟩⟩
           ·
            rw [if_neg c47] at H
            exact absurd H (by simp)
          ·
           rw [if_neg c46] at H
           exact absurd H (by simp)
         ·
          rw [if_neg c45] at H
          exact absurd H (by simp)
      ·
       replace c15 := Bool.eq_false_iff.mpr c15
       subst c15
       replace H := in_ H
       replace H := ob_ H
       obtain ⟨t311, A520, H⟩ := H
       replace H : (some t311) = some r := H
       have A52 := jA.mk A520
       clear A520
       obtain rfl := Option.some.inj H
       obtain ⟨Ao53, co53, eo53⟩ := Kd.jV HO_5.out
       subst eo53
       go_wp2_with (first | ((with_reducible refine jH (f := 110) rfl ?_); refine gl_ (some 56) Try.func110 #[.slice Ao53 x5_1.length co53] ?_; (with_reducible refine (jQ.calls kj12 (fun k_ => some k_ = (.slice Ao53 x5_1.length co53 : Value).ownBlock) _ _ x5_1 t311 _ ?side1 A52.out).mono ?_); (case side1 => exact Kd.R_V (Kd.jBw rfl (HO_5.out))); rintro e w54 ⟨v312, rfl, ho0, hb⟩; refine ⟨_, rfl, ?_⟩; have HO313 := jA.mk (Kd.zh (Kd.vZ (ok' := fun k_ => (P0_ k_ ∨ w.heap.size ≤ k_)) ho0 (fun k_ hk_ => Or.elim hk_ (fun hs_ => (.inr (((HO_5.out).1 k_ hs_.symm)))) (fun hn_ => (.inr (Nat.le_trans (jC (bb_ HB)) hn_))))) (jC (bb_ HB))); replace HO_5 := ro_ HO_5 hb; replace HB := bs_ HB hb))
       go_ret
       exact ⟨_, ew_, (rV_ HO313), (bb_ HB)⟩
def qO.f (k : Nat) (a0 : Bool) (l1 : List Int) (a2 : Bool) (l3 : List Int) : Option (Bool × List Int) := if (a0 == a2) = true then ((jw.f k l1 l3).bind fun t327 => (some (a0, t327))) else ((vN.f k l1 l3).bind fun t330 => (if t330 < 0 then ((vM.f k l3 l1).bind fun bt331 => (some (a2, bt331.1))) else ((vM.f k l1 l3).bind fun bt335 => (some (a0, bt335.1)))))
theorem qO.mono : ∀ a0 a1 a2 a3 k, LeO (qO.f k a0 a1 a2 a3) (qO.f (k + 1) a0 a1 a2 a3) := by
 intro a0 a1 a2 a3 k
 unfold qO.f
 repeat' first
   | (with_reducible exact jw.mono _ _ _)
   | (with_reducible exact vN.mono _ _ _)
   | (with_reducible exact vM.mono _ _ _)
   | (with_reducible exact LeO.refl _)
   | (with_reducible exact LeO.none _)
   | (with_reducible refine LeO.ite ?_ ?_)
   | (with_reducible refine LeO.bind ?_ (fun _ => ?_))
theorem qO.calls (k : Nat) (a0 : Bool) (P1_ : Nat → Prop) (A1 : Option Addr) (c1 : Nat) (l1 : List Int) (a2 : Bool) (A3 : Option Addr) (c3 : Nat) (l3 : List Int) (r1 : Bool) (r2 : List Int) (w : World) (hs1 : Kd.V (Kd.int .u64) 22 w w.heap.size (fun k_ => P1_ k_) (.slice A1 l1.length c1) l1) (hr3 : Kd.C (Kd.int .u64) w A3 l3.length l3) (hc3 : l3.length ≤ c3) (h : qO.f k a0 l1 a2 l3 = some (r1, r2)) :
  Calls Try.prog 87 #[.bool a0, .slice A1 l1.length c1, .bool a2, .slice A3 l3.length c3] w fun e w' => ∃ v1_ : Value, e = .returned (.tuple #[.bool r1, v1_]) ∧ Kd.V (Kd.int .u64) 22 w' w.heap.size (fun k_ => (P1_ k_ ∨ w.heap.size ≤ k_)) v1_ r2 ∧ Below w.heap.size w w' := by
 have HO1 := jA.mk (show Kd.V (Kd.int .u64) 22 w w.heap.size (fun k_ => (P1_ k_ ∨ w.heap.size ≤ k_)) (.slice A1 l1.length c1) l1 from Kd.vZ hs1 (fun k_ hk => .inl hk))
 have HR3 := jA.mk hr3
 have HC3 := jA.mk hc3
 clear hr3 hc3
 have HB := jA.mk (Below.refl w.heap.size w)
 have H : (if (a0 == a2) = true then ((jw.f k l1 l3).bind fun t327 => (some (a0, t327))) else ((vN.f k l1 l3).bind fun t330 => (if t330 < 0 then ((vM.f k l3 l1).bind fun bt331 => (some (a2, bt331.1))) else ((vM.f k l1 l3).bind fun bt335 => (some (a0, bt335.1)))))) = some (r1, r2) := h
 clear h
 by_cases c5 : (a0 == a2) = true
 ·
  rw [if_pos c5] at H
  have c5b0 : (a0 == a2) = true := c5
  (try (have c5b1 : decide (a0 = a2) = true := by simpa using c5))
  (try (have c5b2 : (a0 == a2) = true := by simpa using c5))
  clear c5
  obtain ⟨t327, A6, H⟩ := oc_ H
  try dsimp only at H
  simp only [Option.some.injEq, Prod.mk.injEq] at H
  obtain ⟨rfl, rfl⟩ := H
  go_enter Try.func87, Try.ntmps87
  go_wp2_with (first | ((with_reducible refine jH (f := 108) rfl ?_); refine gl_ (some 19) Try.func108 #[.slice A1 l1.length c1, .slice A3 l3.length c3] ?_; (with_reducible refine (jw.calls k (fun k_ => (P1_ k_ ∨ w.heap.size ≤ k_)) _ _ l1 _ _ l3 t327 _ ?side1 ?side2 ?side3 A6.out).mono ?_); (case side1 => exact HO1.out); (case side2 => exact cc_ HR3.out); (case side3 => exact HC3.out); rintro e w7 ⟨v328, rfl, ho0, hb⟩; refine ⟨_, rfl, ?_⟩; replace HO1 := jA.mk (Kd.qy (rV_ HO1) hb); have HO329 := jA.mk (Kd.zh (Kd.vZ (ok' := fun k_ => (P1_ k_ ∨ w.heap.size ≤ k_)) ho0 (fun k_ hk_ => Or.elim hk_ (fun hs_ => hs_) (fun hn_ => (.inr (Nat.le_trans (jC (bb_ HB)) hn_))))) (jC (bb_ HB))); replace HB := bs_ HB hb))
  go_ret2
  exact ⟨_, ew_, (rV_ HO329), (bb_ HB)⟩
 ·
  rw [if_neg c5] at H
  have c5b0 : (a0 == a2) = false := by simpa using c5
  (try (have c5b1 : decide (a0 = a2) = false := by simpa using c5))
  (try (have c5b2 : (a0 == a2) = false := by simpa using c5))
  (try (have c5b3 : ¬ (a0 = a2) := by simpa using c5))
  clear c5
  obtain ⟨t330, A8, H⟩ := oc_ H
  try dsimp only at H
  by_cases c9 : t330 < 0
  ·
   rw [if_pos c9] at H
   have c9b0 := decide_eq_true c9
   clear c9
   replace H := ob_ H
   obtain ⟨⟨t331, t332⟩, A100, H⟩ := H
   try dsimp only at H
   have A10 := jA.mk A100
   clear A100
   simp only [Option.some.injEq, Prod.mk.injEq] at H
   obtain ⟨rfl, rfl⟩ := H
   go_enter Try.func87, Try.ntmps87
   go_wp2_with (first | ((with_reducible refine jH (f := 98) rfl ?_); refine gl_ (some 23) Try.func98 #[.slice A1 l1.length c1, .slice A3 l3.length c3] ?_; (with_reducible refine (vN.calls k _ _ l1 _ _ l3 t330 _ ?side1 ?side2 ?side3 ?side4 A8.out).mono ?_); (case side1 => repeat (first | exact (Kd.vD HO1.out).2.2 | (with_reducible refine Kd.zJ ?_ _) | (with_reducible refine Kd.zU ?_ _) | (with_reducible refine Kd.zx ?_))); (case side2 => exact (Kd.vD HO1.out).2.1); (case side3 => exact cc_ HR3.out); (case side4 => exact HC3.out); rintro e w11 ⟨rfl, hb⟩; refine ⟨_, rfl, ?_⟩; replace HO1 := jA.mk (Kd.qy (rV_ HO1) hb); replace HB := bs_ HB hb) | ((with_reducible refine jH (f := 109) rfl ?_); refine gl_ (some 31) Try.func109 #[.slice A3 l3.length c3, .slice A1 l1.length c1] ?_; (with_reducible refine (vM.calls k _ _ l3 _ _ l1 t331 t332 _ ?side1 ?side2 ?side3 ?side4 A10.out).mono ?_); (case side1 => exact cb_ HR3 HB); (case side2 => exact HC3.out); (case side3 => repeat (first | exact (Kd.vD HO1.out).2.2 | (with_reducible refine Kd.zJ ?_ _) | (with_reducible refine Kd.zU ?_ _) | (with_reducible refine Kd.zx ?_))); (case side4 => exact (Kd.vD HO1.out).2.1); rintro e w12 ⟨v333, rfl, ho0, hb⟩; refine ⟨_, rfl, ?_⟩; replace HO1 := jA.mk (Kd.qA (rV_ HO1) (Kd.vB ho0) hb); have HO334 := jA.mk (Kd.jN (Kd.jBm (M := fun k_ => (w.heap.size ≤ k_)) ho0 (jC (bb_ HB)) (fun k_ h_ => h_)) (jC (bb_ HB))); replace HB := bs_ HB hb))
   go_ret2
   exact ⟨_, ew_, Kd.vZ (Kd.R_V (by refine pR_ ?_; exact Kd.jT HO334.out (fun _ hk => hk.1))) (fun k_ hk => by first | exact ⟨(.inr (hk.1)), hk.2⟩ | exact (.inr (hk))), (bb_ HB)⟩
  ·
   rw [if_neg c9] at H
   have c9b0 := decide_eq_false c9
   clear c9
   replace H := ob_ H
   obtain ⟨⟨t335, t336⟩, A130, H⟩ := H
   try dsimp only at H
   have A13 := jA.mk A130
   clear A130
   simp only [Option.some.injEq, Prod.mk.injEq] at H
   obtain ⟨rfl, rfl⟩ := H
   go_enter Try.func87, Try.ntmps87
   go_wp2_with (first | ((with_reducible refine jH (f := 98) rfl ?_); refine gl_ (some 23) Try.func98 #[.slice A1 l1.length c1, .slice A3 l3.length c3] ?_; (with_reducible refine (vN.calls k _ _ l1 _ _ l3 t330 _ ?side1 ?side2 ?side3 ?side4 A8.out).mono ?_); (case side1 => repeat (first | exact (Kd.vD HO1.out).2.2 | (with_reducible refine Kd.zJ ?_ _) | (with_reducible refine Kd.zU ?_ _) | (with_reducible refine Kd.zx ?_))); (case side2 => exact (Kd.vD HO1.out).2.1); (case side3 => exact cc_ HR3.out); (case side4 => exact HC3.out); rintro e w14 ⟨rfl, hb⟩; refine ⟨_, rfl, ?_⟩; replace HO1 := jA.mk (Kd.qy (rV_ HO1) hb); replace HB := bs_ HB hb) | ((with_reducible refine jH (f := 109) rfl ?_); refine gl_ (some 31) Try.func109 #[.slice A1 l1.length c1, .slice A3 l3.length c3] ?_; (with_reducible refine (vM.calls k _ _ l1 _ _ l3 t335 t336 _ ?side1 ?side2 ?side3 ?side4 A13.out).mono ?_); (case side1 => repeat (first | exact (Kd.vD HO1.out).2.2 | (with_reducible refine Kd.zJ ?_ _) | (with_reducible refine Kd.zU ?_ _) | (with_reducible refine Kd.zx ?_))); (case side2 => exact (Kd.vD HO1.out).2.1); (case side3 => exact cb_ HR3 HB); (case side4 => exact HC3.out); rintro e w15 ⟨v337, rfl, ho0, hb⟩; refine ⟨_, rfl, ?_⟩; replace HO1 := jA.mk (Kd.qA (rV_ HO1) (Kd.vB ho0) hb); have HO338 := jA.mk (Kd.jN (Kd.jBm (M := fun k_ => (w.heap.size ≤ k_)) ho0 (jC (bb_ HB)) (fun k_ h_ => h_)) (jC (bb_ HB))); replace HB := bs_ HB hb))
   go_ret2
   exact ⟨_, ew_, Kd.vZ (Kd.R_V (by refine pR_ ?_; exact Kd.jT HO338.out (fun _ hk => hk.1))) (fun k_ hk => by first | exact ⟨(.inr (hk.1)), hk.2⟩ | exact (.inr (hk))), (bb_ HB)⟩
-- NOT PRINTED: function 123 (slices_IndexFunc_uint64_uint64)
-- NOT PRINTED: function 114 (slices_ContainsFunc_uint64_uint64)
-- NOT PRINTED: function 115 (ratio_big_1)
end Go.Proofs.Ytijgeonhbmgikaa.PORatioField
