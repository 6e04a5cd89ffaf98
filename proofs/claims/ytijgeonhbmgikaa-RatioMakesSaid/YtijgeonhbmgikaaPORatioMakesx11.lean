-- printed (pr.py)
import Derived.Test.YtijgeonhbmgikaaPORatioMakesx10
namespace Go.Proofs.Ytijgeonhbmgikaa.PORatioMakes
open Go.RowKit Go.Proofs.YtijgeonhbmgikaaN Go.Proofs.YtijgeonhbmgikaaW.PrintWords Go.Proofs.YtijgeonhbmgikaaW.PrintLast Go.Proofs.YtijgeonhbmgikaaW.PrintMore
attribute [local go_sem] qJ qH qd qc zo zn qI qG
set_option maxHeartbeats 8000000
set_option maxRecDepth 100000
set_option linter.unusedVariables false
set_option linter.unusedSimpArgs false
def vR.f (k : Nat)  : Option (Bool) := (vO.f k false (([1] : List Int)) (([6] : List Int)) false (([1] : List Int)) (([3] : List Int))).bind fun bt381 => (if bt381.2.2.2 = 0 then ((jy.f k bt381.1 bt381.2.1 bt381.2.2.1 false (([1] : List Int)) (([2] : List Int))).bind fun t396 => (some t396)) else (some false))
theorem vR.mono : ∀ k, LeO (vR.f k ) (vR.f (k + 1) ) := by
 intro  k
 unfold vR.f
 repeat' first
   | (with_reducible exact vO.mono _ _ _ _ _ _ _)
   | (with_reducible exact jy.mono _ _ _ _ _ _ _)
   | (with_reducible exact LeO.refl _)
   | (with_reducible exact LeO.none _)
   | (with_reducible refine LeO.ite ?_ ?_)
   | (with_reducible refine LeO.bind ?_ (fun _ => ?_))
theorem vR.calls (k : Nat)  (r : Bool) (w : World) (h : vR.f k  = some r) :
  Calls Try.prog 28 #[] w fun e w' => e = .returned (.bool r) ∧ Below w.heap.size w w' := by
 have hu44 := Try.underlying44
 have HB := jA.mk (Below.refl w.heap.size w)
 have H : ((vO.f k false (([1] : List Int)) (([6] : List Int)) false (([1] : List Int)) (([3] : List Int))).bind fun bt381 => (if bt381.2.2.2 = 0 then ((jy.f k bt381.1 bt381.2.1 bt381.2.2.1 false (([1] : List Int)) (([2] : List Int))).bind fun t396 => (some t396)) else (some false))) = some r := h
 clear h
 obtain ⟨y369, hy369⟩ : ∃ y_ : List Int, y_ = (([1] : List Int)) := ⟨_, rfl⟩
 replace H : ((vO.f k false y369 (([6] : List Int)) false (([1] : List Int)) (([3] : List Int))).bind fun bt381 => (if bt381.2.2.2 = 0 then ((jy.f k bt381.1 bt381.2.1 bt381.2.2.1 false (([1] : List Int)) (([2] : List Int))).bind fun t396 => (some t396)) else (some false))) = some r := by first | (rw [hy369]; with_reducible exact H) | (have H2_ := (Option.bind_some _ _).symm.trans H; rw [hy369]; with_reducible exact H2_) | (with_reducible exact hs_ H) | with_reducible exact H | (rw [hy369]; exact H) | exact H
 have Ny369 := jA.mk hy369
 clear hy369
 obtain ⟨y372, hy372⟩ : ∃ y_ : List Int, y_ = (([6] : List Int)) := ⟨_, rfl⟩
 replace H : ((vO.f k false y369 y372 false (([1] : List Int)) (([3] : List Int))).bind fun bt381 => (if bt381.2.2.2 = 0 then ((jy.f k bt381.1 bt381.2.1 bt381.2.2.1 false (([1] : List Int)) (([2] : List Int))).bind fun t396 => (some t396)) else (some false))) = some r := by first | (rw [hy372]; with_reducible exact H) | (have H2_ := (Option.bind_some _ _).symm.trans H; rw [hy372]; with_reducible exact H2_) | (with_reducible exact hs_ H) | with_reducible exact H | (rw [hy372]; exact H) | exact H
 have Ny372 := jA.mk hy372
 clear hy372
 obtain ⟨y375, hy375⟩ : ∃ y_ : List Int, y_ = (([1] : List Int)) := ⟨_, rfl⟩
 replace H : ((vO.f k false y369 y372 false y375 (([3] : List Int))).bind fun bt381 => (if bt381.2.2.2 = 0 then ((jy.f k bt381.1 bt381.2.1 bt381.2.2.1 false (([1] : List Int)) (([2] : List Int))).bind fun t396 => (some t396)) else (some false))) = some r := by first | (rw [hy375]; with_reducible exact H) | (have H2_ := (Option.bind_some _ _).symm.trans H; rw [hy375]; with_reducible exact H2_) | (with_reducible exact hs_ H) | with_reducible exact H | (rw [hy375]; exact H) | exact H
 have Ny375 := jA.mk hy375
 clear hy375
 obtain ⟨y378, hy378⟩ : ∃ y_ : List Int, y_ = (([3] : List Int)) := ⟨_, rfl⟩
 replace H : ((vO.f k false y369 y372 false y375 y378).bind fun bt381 => (if bt381.2.2.2 = 0 then ((jy.f k bt381.1 bt381.2.1 bt381.2.2.1 false (([1] : List Int)) (([2] : List Int))).bind fun t396 => (some t396)) else (some false))) = some r := by first | (rw [hy378]; with_reducible exact H) | (have H2_ := (Option.bind_some _ _).symm.trans H; rw [hy378]; with_reducible exact H2_) | (with_reducible exact hs_ H) | with_reducible exact H | (rw [hy378]; exact H) | exact H
 have Ny378 := jA.mk hy378
 clear hy378
 replace H := ob_ H
 obtain ⟨⟨t381, t382, t385, t388⟩, A10, H⟩ := H
 try dsimp only at H
 have A1 := jA.mk A10
 clear A10
 by_cases c2 : t388 = 0
 ·
  rw [if_pos c2] at H
  have c2b0 := beq_iff_eq.mpr c2
  have c2b1 := bne_eq_false_iff_eq.mpr c2
  clear c2
  obtain ⟨y390, hy390⟩ : ∃ y_ : List Int, y_ = (([1] : List Int)) := ⟨_, rfl⟩
  replace H : ((jy.f k t381 t382 t385 false y390 (([2] : List Int))).bind fun t396 => (some t396)) = some r := by first | (rw [hy390]; with_reducible exact H) | (have H2_ := (Option.bind_some _ _).symm.trans H; rw [hy390]; with_reducible exact H2_) | (with_reducible exact hs_ H) | with_reducible exact H | (rw [hy390]; exact H) | exact H
  have Ny390 := jA.mk hy390
  clear hy390
  obtain ⟨y393, hy393⟩ : ∃ y_ : List Int, y_ = (([2] : List Int)) := ⟨_, rfl⟩
  replace H : ((jy.f k t381 t382 t385 false y390 y393).bind fun t396 => (some t396)) = some r := by first | (rw [hy393]; with_reducible exact H) | (have H2_ := (Option.bind_some _ _).symm.trans H; rw [hy393]; with_reducible exact H2_) | (with_reducible exact hs_ H) | with_reducible exact H | (rw [hy393]; exact H) | exact H
  have Ny393 := jA.mk hy393
  clear hy393
  replace H := ob_ H
  obtain ⟨t396, A30, H⟩ := H
  replace H : (some t396) = some r := H
  have A3 := jA.mk A30
  clear A30
  obtain rfl := Option.some.inj H
  go_enter Try.func28, Try.ntmps28
  go_wp2_with (first | ((with_reducible refine jW (N := 4) rfl ?_); (try (refine je (by rfl) ?_; dsimp only)); refine Kd.qy (Kd.int .u64) _ 22 ?hg (N := 4) ?hd (xs := ([1] : List Int)) (inner := [.int .u64 1]) (ok := fun _ => True) (okp := fun _ => True) ?hr ?hp (fun _ hk => hk) trivial (Below.refl _ _) (Nat.le_refl _) (by simp) ?_; (case hd => rfl); (case hg => rfl); (case hr => exact gs_); (case hp => exact (Reps.one (show Kd.M (Kd.int .u64) _ _ _ 1 [.int .u64 1] from rfl) (Reps.none _ _))); intro v370 w4 ho5 hb hg_ hnew_; clear hg_ hnew_; (first | rw [← Ny369.out] at ho5 | (simp only [Int.reduceToNat] at ho5; rw [← Ny369.out] at ho5)); have HO371 := jA.mk (Kd.jL ho5 (jB (bb_ HB))); replace HB := bs_ HB hb; clear hb ho5) | ((with_reducible refine jW (N := 5) rfl ?_); (try (refine je (by rfl) ?_; dsimp only)); refine Kd.qy (Kd.int .u64) _ 22 ?hg (N := 5) ?hd (xs := ([6] : List Int)) (inner := [.int .u64 6]) (ok := fun _ => True) (okp := fun _ => True) ?hr ?hp (fun _ hk => hk) trivial (Below.refl _ _) (Nat.le_refl _) (by simp) ?_; (case hd => rfl); (case hg => rfl); (case hr => exact gs_); (case hp => exact (Reps.one (show Kd.M (Kd.int .u64) _ _ _ 6 [.int .u64 6] from rfl) (Reps.none _ _))); intro v373 w6 ho7 hb hg_ hnew_; clear hg_ hnew_; (first | rw [← Ny372.out] at ho7 | (simp only [Int.reduceToNat] at ho7; rw [← Ny372.out] at ho7)); have HO374 := jA.mk (Kd.jL (Kd.jG ho7 (Kd.R_lt (rR_ HO371))) (jB (bb_ HB))); replace HO371 := re_ HO371 ho7 hb; replace HB := bs_ HB hb; clear hb ho7; obtain ⟨Ao8, co8, rfl⟩ := Kd.jP HO374.out; obtain ⟨Ao9, co9, rfl⟩ := Kd.jP HO371.out) | ((with_reducible refine jW (N := 7) rfl ?_); (try (refine je (by rfl) ?_; dsimp only)); refine Kd.qy (Kd.int .u64) _ 22 ?hg (N := 7) ?hd (xs := ([1] : List Int)) (inner := [.int .u64 1]) (ok := fun _ => True) (okp := fun _ => True) ?hr ?hp (fun _ hk => hk) trivial (Below.refl _ _) (Nat.le_refl _) (by simp) ?_; (case hd => rfl); (case hg => rfl); (case hr => exact gs_); (case hp => exact (Reps.one (show Kd.M (Kd.int .u64) _ _ _ 1 [.int .u64 1] from rfl) (Reps.none _ _))); intro v376 w10 ho11 hb hg_ hnew_; clear hg_ hnew_; (first | rw [← Ny375.out] at ho11 | (simp only [Int.reduceToNat] at ho11; rw [← Ny375.out] at ho11)); have HO377 := jA.mk (Kd.jL (Kd.jG (Kd.jG ho11 (Kd.R_lt (rR_ HO371))) (Kd.R_lt (rR_ HO374))) (jB (bb_ HB))); replace HO371 := re_ HO371 ho11 hb; replace HO374 := re_ HO374 ho11 hb; replace HB := bs_ HB hb; clear hb ho11) | ((with_reducible refine jW (N := 8) rfl ?_); (try (refine je (by rfl) ?_; dsimp only)); refine Kd.qy (Kd.int .u64) _ 22 ?hg (N := 8) ?hd (xs := ([3] : List Int)) (inner := [.int .u64 3]) (ok := fun _ => True) (okp := fun _ => True) ?hr ?hp (fun _ hk => hk) trivial (Below.refl _ _) (Nat.le_refl _) (by simp) ?_; (case hd => rfl); (case hg => rfl); (case hr => exact gs_); (case hp => exact (Reps.one (show Kd.M (Kd.int .u64) _ _ _ 3 [.int .u64 3] from rfl) (Reps.none _ _))); intro v379 w12 ho13 hb hg_ hnew_; clear hg_ hnew_; (first | rw [← Ny378.out] at ho13 | (simp only [Int.reduceToNat] at ho13; rw [← Ny378.out] at ho13)); have HO380 := jA.mk (Kd.jL (Kd.jG (Kd.jG (Kd.jG ho13 (Kd.R_lt (rR_ HO371))) (Kd.R_lt (rR_ HO374))) (Kd.R_lt (rR_ HO377))) (jB (bb_ HB))); replace HO371 := re_ HO371 ho13 hb; replace HO374 := re_ HO374 ho13 hb; replace HO377 := re_ HO377 ho13 hb; replace HB := bs_ HB hb; clear hb ho13; obtain ⟨Ao14, co14, rfl⟩ := Kd.jP HO380.out; obtain ⟨Ao15, co15, rfl⟩ := Kd.jP HO377.out) | ((with_reducible refine jD (f := 49) rfl ?_); refine gl_ (some 10) Try.func49 #[.agg #[.bool false, .slice Ao9 y369.length co9, .slice Ao8 y372.length co8], .agg #[.bool false, .slice Ao15 y375.length co15, .slice Ao14 y378.length co14]] ?_; (with_reducible refine (vO.calls k false _ _ y369 _ _ y372 false _ _ y375 _ _ y378 t381 t382 t385 t388 _ ?side1 ?side2 ?side3 ?side4 ?side5 ?side6 ?side7 ?side8 A1.out).mono ?_); (case side1 => exact cc_ (Kd.jC HO371.out).2.2); (case side2 => exact (Kd.jC HO371.out).2.1); (case side3 => exact cc_ (Kd.jC HO374.out).2.2); (case side4 => exact (Kd.jC HO374.out).2.1); (case side5 => exact cc_ (Kd.jC HO377.out).2.2); (case side6 => exact (Kd.jC HO377.out).2.1); (case side7 => exact cc_ (Kd.jC HO380.out).2.2); (case side8 => exact (Kd.jC HO380.out).2.1); rintro e w16 ⟨v383, v386, rfl, ho0, ho1, hb⟩; refine ⟨_, rfl, ?_⟩; have HO384 := jA.mk (Kd.jL (Kd.jG (Kd.jG (Kd.jG (Kd.jG ho0 (Kd.R_lt (rR_ HO371))) (Kd.R_lt (rR_ HO374))) (Kd.R_lt (rR_ HO377))) (Kd.R_lt (rR_ HO380))) (jB (bb_ HB))); have HO387 := jA.mk (Kd.jL (Kd.jG (Kd.jG (Kd.jG (Kd.jG ho1 (Kd.R_lt (rR_ HO371))) (Kd.R_lt (rR_ HO374))) (Kd.R_lt (rR_ HO377))) (Kd.R_lt (rR_ HO380))) (jB (bb_ HB))); replace HO371 := jA.mk (Kd.jO (Kd.jo (Kd.jo (Kd.zm (rR_ HO371) hb) (Kd.jY ho0)) (Kd.jY ho1)) (fun _ h_ => h_.1)); replace HO374 := jA.mk (Kd.jO (Kd.jo (Kd.jo (Kd.zm (rR_ HO374) hb) (Kd.jY ho0)) (Kd.jY ho1)) (fun _ h_ => h_.1)); replace HO377 := jA.mk (Kd.jO (Kd.jo (Kd.jo (Kd.zm (rR_ HO377) hb) (Kd.jY ho0)) (Kd.jY ho1)) (fun _ h_ => h_.1)); replace HO380 := jA.mk (Kd.jO (Kd.jo (Kd.jo (Kd.zm (rR_ HO380) hb) (Kd.jY ho0)) (Kd.jY ho1)) (fun _ h_ => h_.1)); replace HB := bs_ HB hb) | ((with_reducible refine jW (N := 1) rfl ?_); (try (refine je (by rfl) ?_; dsimp only)); refine bx_ 1 #[.bool false, .slice none 0 0, .slice none 0 0] 44 ?_; intro gb389 hg w17 hbox hb; replace HO371 := ro_ HO371 hb; replace HO374 := ro_ HO374 hb; replace HO377 := ro_ HO377 hb; replace HO380 := ro_ HO380 hb; replace HO384 := ro_ HO384 hb; replace HO387 := ro_ HO387 hb; have BK389 := jA.mk (hbox); have GW389 := jA.mk ((by rw [hg]; exact (jB (bb_ HB)) : w.heap.size ≤ gb389)); have GE389 := GW389; replace HB := bs_ HB hb; clear hb hbox hg; obtain ⟨hcz18_0, hcz18_1, hcz18_2, hfz18_0, hfz18_1, hfz18_2⟩ := bf3_ BK389; obtain ⟨Ao19, co19, rfl⟩ := Kd.jP HO384.out; obtain ⟨Ao20, co20, rfl⟩ := Kd.jP HO387.out) | ((with_reducible refine jW (N := 17) rfl ?_); (try (refine je (by rfl) ?_; dsimp only)); refine Kd.qy (Kd.int .u64) _ 22 ?hg (N := 17) ?hd (xs := ([1] : List Int)) (inner := [.int .u64 1]) (ok := fun _ => True) (okp := fun _ => True) ?hr ?hp (fun _ hk => hk) trivial (Below.refl _ _) (Nat.le_refl _) (by simp) ?_; (case hd => rfl); (case hg => rfl); (case hr => exact gs_); (case hp => exact (Reps.one (show Kd.M (Kd.int .u64) _ _ _ 1 [.int .u64 1] from rfl) (Reps.none _ _))); intro v391 w21 ho22 hb hg_ hnew_; clear hg_ hnew_; (first | rw [← Ny390.out] at ho22 | (simp only [Int.reduceToNat] at ho22; rw [← Ny390.out] at ho22)); have HO392 := jA.mk (Kd.jL (Kd.jG (Kd.jG (Kd.jG (Kd.jG (Kd.jG (Kd.jG ho22 (Kd.R_lt (rg3_ HO371 BK389))) (Kd.R_lt (rg3_ HO374 BK389))) (Kd.R_lt (rg3_ HO377 BK389))) (Kd.R_lt (rg3_ HO380 BK389))) (Kd.R_lt (rg3_ HO384 BK389))) (Kd.R_lt (rg3_ HO387 BK389))) (jB (bb1_ HB GE389))); replace HO371 := jA.mk (Kd.jAf (rg3_ HO371 BK389) (Kd.jY ho22) hb); replace HO374 := jA.mk (Kd.jAf (rg3_ HO374 BK389) (Kd.jY ho22) hb); replace HO377 := jA.mk (Kd.jAf (rg3_ HO377 BK389) (Kd.jY ho22) hb); replace HO380 := jA.mk (Kd.jAf (rg3_ HO380 BK389) (Kd.jY ho22) hb); replace HO384 := jA.mk (Kd.jAf (rg3_ HO384 BK389) (Kd.jY ho22) hb); replace HO387 := jA.mk (Kd.jAf (rg3_ HO387 BK389) (Kd.jY ho22) hb); replace BK389 := jA.mk (vJ (g := gb389) (o := .cells #[.bool t381, .slice Ao19 t382.length co19, .slice Ao20 t385.length co20] 44 (0, 0)) (by refine pk_ ?_; refine jc (cs := #[.bool t381, .slice Ao19 t382.length co19, .slice none 0 0]) ?_ 2 _ rs_; refine pk_ ?_; refine jc (cs := #[.bool t381, .slice none 0 0, .slice none 0 0]) ?_ 1 _ rs_; refine pk_ ?_; refine jc (cs := #[.bool false, .slice none 0 0, .slice none 0 0]) ?_ 0 _ rs_; refine pk_ ?_; exact BK389.out) hb); replace HB := jA.mk (jJ (bb1_ HB GE389) hb); clear hb ho22) | ((with_reducible refine jW (N := 18) rfl ?_); (try (refine je (by rfl) ?_; dsimp only)); refine Kd.qy (Kd.int .u64) _ 22 ?hg (N := 18) ?hd (xs := ([2] : List Int)) (inner := [.int .u64 2]) (ok := fun _ => True) (okp := fun _ => True) ?hr ?hp (fun _ hk => hk) trivial (Below.refl _ _) (Nat.le_refl _) (by simp) ?_; (case hd => rfl); (case hg => rfl); (case hr => exact gs_); (case hp => exact (Reps.one (show Kd.M (Kd.int .u64) _ _ _ 2 [.int .u64 2] from rfl) (Reps.none _ _))); intro v394 w23 ho24 hb hg_ hnew_; clear hg_ hnew_; (first | rw [← Ny393.out] at ho24 | (simp only [Int.reduceToNat] at ho24; rw [← Ny393.out] at ho24)); have HO395 := jA.mk (Kd.jL (Kd.jG (Kd.jG (Kd.jG (Kd.jG (Kd.jG (Kd.jG (Kd.jG ho24 (Kd.R_lt (rR_ HO371))) (Kd.R_lt (rR_ HO374))) (Kd.R_lt (rR_ HO377))) (Kd.R_lt (rR_ HO380))) (Kd.R_lt (rR_ HO384))) (Kd.R_lt (rR_ HO387))) (Kd.R_lt (rR_ HO392))) (jB (bb1_ HB GE389))); replace HO371 := re_ HO371 ho24 hb; replace HO374 := re_ HO374 ho24 hb; replace HO377 := re_ HO377 ho24 hb; replace HO380 := re_ HO380 ho24 hb; replace HO384 := re_ HO384 ho24 hb; replace HO387 := re_ HO387 ho24 hb; replace HO392 := re_ HO392 ho24 hb; replace BK389 := bk_ BK389 hb; replace HB := jA.mk (jJ (bb1_ HB GE389) hb); clear hb ho24; obtain ⟨Ao25, co25, rfl⟩ := Kd.jP HO395.out; obtain ⟨Ao26, co26, rfl⟩ := Kd.jP HO392.out) | (go_at_call 26; (with_reducible refine (jy.calls k t381 _ _ t382 _ _ t385 false _ _ y390 _ _ y393 t396 _ ?side1 ?side2 ?side3 ?side4 ?side5 ?side6 ?side7 ?side8 A3.out).mono ?_); (case side1 => exact cc_ (Kd.jC HO384.out).2.2); (case side2 => exact (Kd.jC HO384.out).2.1); (case side3 => exact cc_ (Kd.jC HO387.out).2.2); (case side4 => exact (Kd.jC HO387.out).2.1); (case side5 => exact cc_ (Kd.jC HO392.out).2.2); (case side6 => exact (Kd.jC HO392.out).2.1); (case side7 => exact cc_ (Kd.jC HO395.out).2.2); (case side8 => exact (Kd.jC HO395.out).2.1); rintro e w27 ⟨rfl, hb⟩; replace HO371 := ro_ HO371 hb; replace HO374 := ro_ HO374 hb; replace HO377 := ro_ HO377 hb; replace HO380 := ro_ HO380 hb; replace HO384 := ro_ HO384 hb; replace HO387 := ro_ HO387 hb; replace HO392 := ro_ HO392 hb; replace HO395 := ro_ HO395 hb; replace BK389 := bk_ BK389 hb; replace HB := jA.mk (jJ (bb1_ HB GE389) hb)))
  go_ret
  exact ⟨ew_, (bb1_ HB GE389)⟩
 ·
  rw [if_neg c2] at H
  have c2b0 := beq_eq_false_iff_ne.mpr c2
  have c2b1 := bne_iff_ne.mpr c2
  obtain rfl := Option.some.inj H
  go_enter Try.func28, Try.ntmps28
  go_wp2_with (first | ((with_reducible refine jW (N := 4) rfl ?_); (try (refine je (by rfl) ?_; dsimp only)); refine Kd.qy (Kd.int .u64) _ 22 ?hg (N := 4) ?hd (xs := ([1] : List Int)) (inner := [.int .u64 1]) (ok := fun _ => True) (okp := fun _ => True) ?hr ?hp (fun _ hk => hk) trivial (Below.refl _ _) (Nat.le_refl _) (by simp) ?_; (case hd => rfl); (case hg => rfl); (case hr => exact gs_); (case hp => exact (Reps.one (show Kd.M (Kd.int .u64) _ _ _ 1 [.int .u64 1] from rfl) (Reps.none _ _))); intro v370 w28 ho29 hb hg_ hnew_; clear hg_ hnew_; (first | rw [← Ny369.out] at ho29 | (simp only [Int.reduceToNat] at ho29; rw [← Ny369.out] at ho29)); have HO371 := jA.mk (Kd.jL ho29 (jB (bb_ HB))); replace HB := bs_ HB hb; clear hb ho29) | ((with_reducible refine jW (N := 5) rfl ?_); (try (refine je (by rfl) ?_; dsimp only)); refine Kd.qy (Kd.int .u64) _ 22 ?hg (N := 5) ?hd (xs := ([6] : List Int)) (inner := [.int .u64 6]) (ok := fun _ => True) (okp := fun _ => True) ?hr ?hp (fun _ hk => hk) trivial (Below.refl _ _) (Nat.le_refl _) (by simp) ?_; (case hd => rfl); (case hg => rfl); (case hr => exact gs_); (case hp => exact (Reps.one (show Kd.M (Kd.int .u64) _ _ _ 6 [.int .u64 6] from rfl) (Reps.none _ _))); intro v373 w30 ho31 hb hg_ hnew_; clear hg_ hnew_; (first | rw [← Ny372.out] at ho31 | (simp only [Int.reduceToNat] at ho31; rw [← Ny372.out] at ho31)); have HO374 := jA.mk (Kd.jL (Kd.jG ho31 (Kd.R_lt (rR_ HO371))) (jB (bb_ HB))); replace HO371 := re_ HO371 ho31 hb; replace HB := bs_ HB hb; clear hb ho31; obtain ⟨Ao32, co32, rfl⟩ := Kd.jP HO374.out; obtain ⟨Ao33, co33, rfl⟩ := Kd.jP HO371.out) | ((with_reducible refine jW (N := 7) rfl ?_); (try (refine je (by rfl) ?_; dsimp only)); refine Kd.qy (Kd.int .u64) _ 22 ?hg (N := 7) ?hd (xs := ([1] : List Int)) (inner := [.int .u64 1]) (ok := fun _ => True) (okp := fun _ => True) ?hr ?hp (fun _ hk => hk) trivial (Below.refl _ _) (Nat.le_refl _) (by simp) ?_; (case hd => rfl); (case hg => rfl); (case hr => exact gs_); (case hp => exact (Reps.one (show Kd.M (Kd.int .u64) _ _ _ 1 [.int .u64 1] from rfl) (Reps.none _ _))); intro v376 w34 ho35 hb hg_ hnew_; clear hg_ hnew_; (first | rw [← Ny375.out] at ho35 | (simp only [Int.reduceToNat] at ho35; rw [← Ny375.out] at ho35)); have HO377 := jA.mk (Kd.jL (Kd.jG (Kd.jG ho35 (Kd.R_lt (rR_ HO371))) (Kd.R_lt (rR_ HO374))) (jB (bb_ HB))); replace HO371 := re_ HO371 ho35 hb; replace HO374 := re_ HO374 ho35 hb; replace HB := bs_ HB hb; clear hb ho35) | ((with_reducible refine jW (N := 8) rfl ?_); (try (refine je (by rfl) ?_; dsimp only)); refine Kd.qy (Kd.int .u64) _ 22 ?hg (N := 8) ?hd (xs := ([3] : List Int)) (inner := [.int .u64 3]) (ok := fun _ => True) (okp := fun _ => True) ?hr ?hp (fun _ hk => hk) trivial (Below.refl _ _) (Nat.le_refl _) (by simp) ?_; (case hd => rfl); (case hg => rfl); (case hr => exact gs_); (case hp => exact (Reps.one (show Kd.M (Kd.int .u64) _ _ _ 3 [.int .u64 3] from rfl) (Reps.none _ _))); intro v379 w36 ho37 hb hg_ hnew_; clear hg_ hnew_; (first | rw [← Ny378.out] at ho37 | (simp only [Int.reduceToNat] at ho37; rw [← Ny378.out] at ho37)); have HO380 := jA.mk (Kd.jL (Kd.jG (Kd.jG (Kd.jG ho37 (Kd.R_lt (rR_ HO371))) (Kd.R_lt (rR_ HO374))) (Kd.R_lt (rR_ HO377))) (jB (bb_ HB))); replace HO371 := re_ HO371 ho37 hb; replace HO374 := re_ HO374 ho37 hb; replace HO377 := re_ HO377 ho37 hb; replace HB := bs_ HB hb; clear hb ho37; obtain ⟨Ao38, co38, rfl⟩ := Kd.jP HO380.out; obtain ⟨Ao39, co39, rfl⟩ := Kd.jP HO377.out) | ((with_reducible refine jD (f := 49) rfl ?_); refine gl_ (some 10) Try.func49 #[.agg #[.bool false, .slice Ao33 y369.length co33, .slice Ao32 y372.length co32], .agg #[.bool false, .slice Ao39 y375.length co39, .slice Ao38 y378.length co38]] ?_; (with_reducible refine (vO.calls k false _ _ y369 _ _ y372 false _ _ y375 _ _ y378 t381 t382 t385 t388 _ ?side1 ?side2 ?side3 ?side4 ?side5 ?side6 ?side7 ?side8 A1.out).mono ?_); (case side1 => exact cc_ (Kd.jC HO371.out).2.2); (case side2 => exact (Kd.jC HO371.out).2.1); (case side3 => exact cc_ (Kd.jC HO374.out).2.2); (case side4 => exact (Kd.jC HO374.out).2.1); (case side5 => exact cc_ (Kd.jC HO377.out).2.2); (case side6 => exact (Kd.jC HO377.out).2.1); (case side7 => exact cc_ (Kd.jC HO380.out).2.2); (case side8 => exact (Kd.jC HO380.out).2.1); rintro e w40 ⟨v383, v386, rfl, ho0, ho1, hb⟩; refine ⟨_, rfl, ?_⟩; have HO384 := jA.mk (Kd.jL (Kd.jG (Kd.jG (Kd.jG (Kd.jG ho0 (Kd.R_lt (rR_ HO371))) (Kd.R_lt (rR_ HO374))) (Kd.R_lt (rR_ HO377))) (Kd.R_lt (rR_ HO380))) (jB (bb_ HB))); have HO387 := jA.mk (Kd.jL (Kd.jG (Kd.jG (Kd.jG (Kd.jG ho1 (Kd.R_lt (rR_ HO371))) (Kd.R_lt (rR_ HO374))) (Kd.R_lt (rR_ HO377))) (Kd.R_lt (rR_ HO380))) (jB (bb_ HB))); replace HO371 := jA.mk (Kd.jO (Kd.jo (Kd.jo (Kd.zm (rR_ HO371) hb) (Kd.jY ho0)) (Kd.jY ho1)) (fun _ h_ => h_.1)); replace HO374 := jA.mk (Kd.jO (Kd.jo (Kd.jo (Kd.zm (rR_ HO374) hb) (Kd.jY ho0)) (Kd.jY ho1)) (fun _ h_ => h_.1)); replace HO377 := jA.mk (Kd.jO (Kd.jo (Kd.jo (Kd.zm (rR_ HO377) hb) (Kd.jY ho0)) (Kd.jY ho1)) (fun _ h_ => h_.1)); replace HO380 := jA.mk (Kd.jO (Kd.jo (Kd.jo (Kd.zm (rR_ HO380) hb) (Kd.jY ho0)) (Kd.jY ho1)) (fun _ h_ => h_.1)); replace HB := bs_ HB hb) | ((with_reducible refine jW (N := 1) rfl ?_); (try (refine je (by rfl) ?_; dsimp only)); refine bx_ 1 #[.bool false, .slice none 0 0, .slice none 0 0] 44 ?_; intro gb389 hg w41 hbox hb; replace HO371 := ro_ HO371 hb; replace HO374 := ro_ HO374 hb; replace HO377 := ro_ HO377 hb; replace HO380 := ro_ HO380 hb; replace HO384 := ro_ HO384 hb; replace HO387 := ro_ HO387 hb; have BK389 := jA.mk (hbox); have GW389 := jA.mk ((by rw [hg]; exact (jB (bb_ HB)) : w.heap.size ≤ gb389)); have GE389 := GW389; replace HB := bs_ HB hb; clear hb hbox hg; obtain ⟨hcz42_0, hcz42_1, hcz42_2, hfz42_0, hfz42_1, hfz42_2⟩ := bf3_ BK389; obtain ⟨Ao43, co43, rfl⟩ := Kd.jP HO384.out; obtain ⟨Ao44, co44, rfl⟩ := Kd.jP HO387.out))
  go_ret
  exact ⟨ew_, (bb1_ HB GE389)⟩
def qA.f (a0_0 : Bool) (l0_1 : List Int) (l0_2 : List Int) : Option (Bool) := if (l0_1.length : Int) > 20 then (some true) else (some (decide ((l0_2.length : Int) > 20)))
theorem qA.calls (a0_0 : Bool) (A0_1 : Option Addr) (c0_1 : Nat) (l0_1 : List Int) (A0_2 : Option Addr) (c0_2 : Nat) (l0_2 : List Int) (r : Bool) (w : World) (hr0_1 : Kd.C (Kd.int .u64) w A0_1 l0_1.length l0_1) (hc0_1 : l0_1.length ≤ c0_1) (hr0_2 : Kd.C (Kd.int .u64) w A0_2 l0_2.length l0_2) (hc0_2 : l0_2.length ≤ c0_2) (h : qA.f a0_0 l0_1 l0_2 = some r) :
  Calls Try.prog 35 #[.agg #[.bool a0_0, .slice A0_1 l0_1.length c0_1, .slice A0_2 l0_2.length c0_2]] w fun e w' => e = .returned (.bool r) ∧ Below w.heap.size w w' := by
 have hu44 := Try.underlying44
 have HR0_1 := jA.mk hr0_1
 have HC0_1 := jA.mk hc0_1
 clear hr0_1 hc0_1
 have HR0_2 := jA.mk hr0_2
 have HC0_2 := jA.mk hc0_2
 clear hr0_2 hc0_2
 have HB := jA.mk (Below.refl w.heap.size w)
 have H : (if (l0_1.length : Int) > 20 then (some true) else (some (decide ((l0_2.length : Int) > 20)))) = some r := h
 clear h
 by_cases c2 : (l0_1.length : Int) > 20
 ·
  rw [if_pos c2] at H
  have c2b0 := decide_eq_true c2
  have c2b1 : decide (20 < l0_1.length) = true := decide_eq_true (by omega)
  clear c2
  obtain rfl := Option.some.inj H
  go_enter Try.func35, Try.ntmps35
  go_wp2_with (first | ((with_reducible refine jW (N := 1) rfl ?_); (try (refine je (by rfl) ?_; dsimp only)); refine bx_ 1 #[.bool a0_0, .slice A0_1 l0_1.length c0_1, .slice A0_2 l0_2.length c0_2] 44 ?_; intro gb397 hg w3 hbox hb; have BK397 := jA.mk (hbox); have GW397 := jA.mk ((by rw [hg]; exact (jB (bb_ HB)) : w.heap.size ≤ gb397)); have GE397 := GW397; replace HB := bs_ HB hb; clear hb hbox hg; obtain ⟨hcz4_0, hcz4_1, hcz4_2, hfz4_0, hfz4_1, hfz4_2⟩ := bf3_ BK397))
  go_ret
  exact ⟨ew_, (bb1_ HB GE397)⟩
 ·
  rw [if_neg c2] at H
  have c2b0 := decide_eq_false c2
  have c2b1 : decide (20 < l0_1.length) = false := decide_eq_false (by omega)
  clear c2
  obtain rfl := Option.some.inj H
  go_enter Try.func35, Try.ntmps35
  go_wp2_with (first | ((with_reducible refine jW (N := 1) rfl ?_); (try (refine je (by rfl) ?_; dsimp only)); refine bx_ 1 #[.bool a0_0, .slice A0_1 l0_1.length c0_1, .slice A0_2 l0_2.length c0_2] 44 ?_; intro gb397 hg w5 hbox hb; have BK397 := jA.mk (hbox); have GW397 := jA.mk ((by rw [hg]; exact (jB (bb_ HB)) : w.heap.size ≤ gb397)); have GE397 := GW397; replace HB := bs_ HB hb; clear hb hbox hg; obtain ⟨hcz6_0, hcz6_1, hcz6_2, hfz6_0, hfz6_1, hfz6_2⟩ := bf3_ BK397))
  go_ret
  exact ⟨ew_, (bb1_ HB GE397)⟩
def jk.f (l0 : List Int) : Option (Bool) := if (l0.length : Int) ≤ 8 then (if (l0.length : Int) = 0 then (some true) else (if 0 ≤ (wrap64 ((l0.length : Int) - 1)) then (if (wrap64 ((l0.length : Int) - 1)) < (l0.length : Int) then (some ((rd l0 (wrap64 ((l0.length : Int) - 1))) != 0)) else (none)) else (none))) else (some false)
theorem jk.calls (A0 : Option Addr) (c0 : Nat) (l0 : List Int) (r : Bool) (w : World) (hr0 : Kd.C (Kd.int .u64) w A0 l0.length l0) (hc0 : l0.length ≤ c0) (h : jk.f l0 = some r) :
  Calls Try.prog 74 #[.slice A0 l0.length c0] w fun e w' => e = .returned (.bool r) ∧ zl w w' := by
 have HR0 := jA.mk hr0
 have HC0 := jA.mk hc0
 clear hr0 hc0
 have H : (if (l0.length : Int) ≤ 8 then (if (l0.length : Int) = 0 then (some true) else (if 0 ≤ (wrap64 ((l0.length : Int) - 1)) then (if (wrap64 ((l0.length : Int) - 1)) < (l0.length : Int) then (some ((rd l0 (wrap64 ((l0.length : Int) - 1))) != 0)) else (none)) else (none))) else (some false)) = some r := h
 clear h
 by_cases c2 : (l0.length : Int) ≤ 8
 ·
  rw [if_pos c2] at H
  have c2b0 := decide_eq_true c2
  have c2b1 : decide (l0.length ≤ 8) = true := decide_eq_true (by omega)
  clear c2
  by_cases c3 : (l0.length : Int) = 0
  ·
   rw [if_pos c3] at H
   have c3b0 := beq_iff_eq.mpr c3
   have c3b1 := bne_eq_false_iff_eq.mpr c3
   clear c3
   obtain rfl := Option.some.inj H
   go_enter Try.func74, Try.ntmps74
   go_wp2
   go_ret
   exact ⟨by first | rfl | (simp; done) | (simp [*]; done), by repeat (first | exact zl.refl _ | apply zl.step)⟩
  ·
   rw [if_neg c3] at H
   have c3b0 := beq_eq_false_iff_ne.mpr c3
   have c3b1 := bne_iff_ne.mpr c3
   have c3b2 : ¬ (l0 = []) := fun h_ => c3 (by rw [h_]; rfl)
   obtain ⟨ji4, hji4⟩ : ∃ j_ : Int, (wrap64 ((l0.length : Int) - 1)) = j_ := ⟨_, rfl⟩
   replace H : (if 0 ≤ (ji4) then (if (ji4) < (l0.length : Int) then (some ((rd l0 (ji4)) != 0)) else (none)) else (none)) = some r := by first | (rw [hji4] at H; exact H) | (simp only [hji4] at H ⊢; exact H)
   have hji4w : (IntKind.i64.wrap ((l0.length : Int) - 1)) = ji4 := (qg _).trans hji4
   by_cases c5 : 0 ≤ (ji4)
   ·
    rw [if_pos c5] at H
    have c5b0 := decide_eq_true c5
    clear c5
    by_cases c6 : (ji4) < (l0.length : Int)
    ·
     rw [if_pos c6] at H
     have c6b0 := decide_eq_true c6
     clear c6
     obtain rfl := Option.some.inj H
     have p398 : 0 ≤ ((ji4) : Int) := of_decide_eq_true am_
     have q398 : (ji4) < (l0.length : Int) := of_decide_eq_true am_
     obtain ⟨ad398, e398, hx398_0⟩ := Kd.zJ HR0.out (ji4) p398 q398
     cases e398
     replace p398 := eq_true p398
     replace q398 := eq_true q398
     go_enter Try.func74, Try.ntmps74
     go_wp2
     go_ret
     exact ⟨by first | rfl | (simp; done) | (simp only [← hji4] <;> (first | rfl | simp)) | (simp [*]; done), by repeat (first | exact zl.refl _ | apply zl.step)⟩
    ·
     rw [if_neg c6] at H
     exact absurd H (by simp)
   ·
    rw [if_neg c5] at H
    exact absurd H (by simp)
 ·
  rw [if_neg c2] at H
  have c2b0 := decide_eq_false c2
  have c2b1 : decide (l0.length ≤ 8) = false := decide_eq_false (by omega)
  clear c2
  obtain rfl := Option.some.inj H
  go_enter Try.func74, Try.ntmps74
  go_wp2
  go_ret
  exact ⟨by first | rfl | (simp; done) | (simp [*]; done), by repeat (first | exact zl.refl _ | apply zl.step)⟩
def jg.l0 : Nat → List Int → Int → Option (List Int)
 | 0, _, _ => none
 | k + 1, x0, x3 => if x3 > 0 then (if 0 ≤ (wrap64 (x3 - 1)) then (if (wrap64 (x3 - 1)) < (x0.length : Int) then (if (rd x0 (wrap64 (x3 - 1))) = 0 then (jg.l0 k x0 (wrap64 (x3 - 1))) else ((some (([] : List Int) : List Int)).bind fun y400 => (if 0 ≤ x3 then (if x3 ≤ (x0.length : Int) then (if y400.length + (x0.take (x3 : Int).toNat).length < 17592186044416 then (some (y400 ++ (x0.take (x3 : Int).toNat))) else (none)) else (none)) else (none)))) else (none)) else (none)) else ((some (([] : List Int) : List Int)).bind fun y407 => (if 0 ≤ x3 then (if x3 ≤ (x0.length : Int) then (if y407.length + (x0.take (x3 : Int).toNat).length < 17592186044416 then (some (y407 ++ (x0.take (x3 : Int).toNat))) else (none)) else (none)) else (none)))
def jg.f (k : Nat) (l0 : List Int) : Option (List Int) := jg.l0 k l0 (l0.length : Int)
theorem jg.vQ : ∀ k, (∀ y0 y1, LeO (jg.l0 k y0 y1) (jg.l0 (k + 1) y0 y1))
 | 0 => fun _ _ r h => by simp [jg.l0] at h
 | k + 1 => by
  have ih0 := jg.vQ k
  ·
   intro y0 y1
   unfold jg.l0
   repeat' first
   | (with_reducible exact ih0 _ _)
   | (with_reducible exact LeO.refl _)
   | (with_reducible exact LeO.none _)
   | (with_reducible refine LeO.ite ?_ ?_)
   | (with_reducible refine LeO.bind ?_ (fun _ => ?_))
theorem jg.mono : ∀ a0 k, LeO (jg.f k a0) (jg.f (k + 1) a0) := by
 intro a0 k
 have ih0 := jg.vQ k
 unfold jg.f
 repeat' first
   | (with_reducible exact ih0 _ _)
   | (with_reducible exact LeO.refl _)
   | (with_reducible exact LeO.none _)
   | (with_reducible refine LeO.ite ?_ ?_)
   | (with_reducible refine LeO.bind ?_ (fun _ => ?_))
theorem jg.calls (k : Nat) (A0 : Option Addr) (c0 : Nat) (l0 : List Int) (r : List Int) (w : World) (hr0 : Kd.C (Kd.int .u64) w A0 l0.length l0) (hc0 : l0.length ≤ c0) (h : jg.f k l0 = some r) :
  Calls Try.prog 25 #[.slice A0 l0.length c0] w fun e w' => ∃ v0_ : Value, e = .returned (v0_) ∧ Kd.R (Kd.int .u64) 22 w' w.heap.size (fun _ => True) v0_ r ∧ Below w.heap.size w w' := by
 have HR0 := jA.mk hr0
 have HC0 := jA.mk hc0
 clear hr0 hc0
 have HB := jA.mk (Below.refl w.heap.size w)
 have H : (jg.l0 k l0 (l0.length : Int)) = some r := h
 clear h
 have H' := jA.mk H
 clear H
 go_enter Try.func25, Try.ntmps25
 go_wp2
 go_loopg [3] k (fun kq v3 w' => ∃ (x3_1 : Int), v3 = .int .i64 x3_1 ∧ jA (jg.l0 kq l0 x3_1 = some r) ∧ jA (kq ≤ k) ∧ jA (Below w.heap.size w w'))
 case atStart => exact ⟨((l0.length : Int)), sd_, H', ⟨Nat.le_refl _⟩, ⟨(bb_ HB)⟩⟩
 case round =>
  clear H'
  obtain ⟨x3_1, rfl, HA, HK1, HB⟩ := hrel
  cases gk with
  | zero => exact absurd HA.out (by simp [jg.l0])
  | succ k1 =>
   have H := HA.out
   clear HA
   simp only [jg.l0] at H
   by_cases c2 : x3_1 > 0
   ·
    rw [if_pos c2] at H
    have c2b0 := decide_eq_true c2
    clear c2
    obtain ⟨ji3, hji3⟩ : ∃ j_ : Int, (wrap64 (x3_1 - 1)) = j_ := ⟨_, rfl⟩
    replace H : (if 0 ≤ (ji3) then (if (ji3) < (l0.length : Int) then (if (rd l0 (ji3)) = 0 then (jg.l0 k1 l0 ji3) else ((some (([] : List Int) : List Int)).bind fun y400 => (if 0 ≤ x3_1 then (if x3_1 ≤ (l0.length : Int) then (if y400.length + (l0.take (x3_1 : Int).toNat).length < 17592186044416 then (some (y400 ++ (l0.take (x3_1 : Int).toNat))) else (none)) else (none)) else (none)))) else (none)) else (none)) = some r := by first | (rw [hji3] at H; exact H) | (simp only [hji3] at H ⊢; exact H)
    have hji3w : (IntKind.i64.wrap (x3_1 - 1)) = ji3 := (qg _).trans hji3
    by_cases c4 : 0 ≤ (ji3)
    ·
     rw [if_pos c4] at H
     have c4b0 := decide_eq_true c4
     clear c4
     by_cases c5 : (ji3) < (l0.length : Int)
     ·
      rw [if_pos c5] at H
      have c5b0 := decide_eq_true c5
      clear c5
      by_cases c6 : (rd l0 (ji3)) = 0
      ·
       rw [if_pos c6] at H
       have c6b0 := beq_iff_eq.mpr c6
       have c6b1 := bne_eq_false_iff_eq.mpr c6
       clear c6
       have H' := jA.mk H
       clear H
       have p399 : 0 ≤ ((ji3) : Int) := of_decide_eq_true am_
       have q399 : (ji3) < (l0.length : Int) := of_decide_eq_true am_
       obtain ⟨ad399, e399, hx399_0⟩ := Kd.zJ HR0.out (ji3) p399 q399
       cases e399
       replace hx399_0 := (HB.out.cell (World.block_lt_of_cell? w _ hx399_0)).trans hx399_0
       replace p399 := eq_true p399
       replace q399 := eq_true q399
       go_wp2
       go_roundg k1
       case measure => have := HK1.out; omega
       case rel => exact ⟨(ji3), (by first | rfl | (simp; done) | (simp only [← hji3] <;> (first | rfl | simp)) | (simp [*]; done)), H', ⟨by have := HK1.out; omega⟩, ⟨(bb_ HB)⟩⟩
      ·
       rw [if_neg c6] at H
       have c6b0 := beq_eq_false_iff_ne.mpr c6
       have c6b1 := bne_iff_ne.mpr c6
       obtain ⟨y400, hy400⟩ : ∃ y_ : List Int, y_ = (([] : List Int)) := ⟨_, rfl⟩
       replace H : (if 0 ≤ x3_1 then (if x3_1 ≤ (l0.length : Int) then (if y400.length + (l0.take (x3_1 : Int).toNat).length < 17592186044416 then (some (y400 ++ (l0.take (x3_1 : Int).toNat))) else (none)) else (none)) else (none)) = some r := by first | (rw [hy400]; with_reducible exact H) | (have H2_ := (Option.bind_some _ _).symm.trans H; rw [hy400]; with_reducible exact H2_) | (with_reducible exact hs_ H) | with_reducible exact H | (rw [hy400]; exact H) | exact H
       have Ny400 := jA.mk hy400
       clear hy400
       by_cases c7 : 0 ≤ x3_1
       ·
        rw [if_pos c7] at H
        have c7b0 := eq_true c7
        have c7b1 := decide_eq_true c7
        clear c7
        by_cases c8 : x3_1 ≤ (l0.length : Int)
        ·
         rw [if_pos c8] at H
         have c8b0 := eq_true c8
         have c8b1 := decide_eq_true c8
         clear c8
         by_cases c9 : y400.length + (l0.take (x3_1 : Int).toNat).length < 17592186044416
         ·
          rw [if_pos c9] at H
          have LMc9 := jA.mk c9
          clear c9
          obtain ⟨y404, hy404⟩ : ∃ y_ : List Int, y_ = (y400 ++ (l0.take (x3_1 : Int).toNat)) := ⟨_, rfl⟩
          replace H : (some y404) = some r := by first | (rw [hy404]; with_reducible exact H) | (have H2_ := (Option.bind_some _ _).symm.trans H; rw [hy404]; with_reducible exact H2_) | (with_reducible exact hs_ H) | with_reducible exact H | (rw [hy404]; exact H) | exact H
          have Ny404 := jA.mk hy404
          clear hy404
          obtain rfl := Option.some.inj H
          have p399 : 0 ≤ ((ji3) : Int) := of_decide_eq_true am_
          have q399 : (ji3) < (l0.length : Int) := of_decide_eq_true am_
          obtain ⟨ad399, e399, hx399_0⟩ := Kd.zJ HR0.out (ji3) p399 q399
          cases e399
          replace hx399_0 := (HB.out.cell (World.block_lt_of_cell? w _ hx399_0)).trans hx399_0
          replace p399 := eq_true p399
          replace q399 := eq_true q399
          go_wp2_with (first | ((with_reducible refine jW (N := 19) rfl ?_); refine Kd.qy (Kd.int .u64) _ 22 ?hg (N := 19) ?hd (xs := ([] : List Int)) (inner := []) (ok := fun _ => True) (okp := fun _ => True) ?hr ?hp (fun _ hk => hk) trivial (Below.refl _ _) (Nat.le_refl _) (by simp) ?_; (case hd => rfl); (case hg => rfl); (case hr => exact gs_); (case hp => exact (Reps.none _ _)); intro v401 w10 ho11 hb hg_ hnew_; clear hg_ hnew_; (first | rw [← Ny400.out] at ho11 | (simp only [Int.reduceToNat] at ho11; rw [← Ny400.out] at ho11)); have HO402 := jA.mk (Kd.jL ho11 (jB (bb_ HB))); replace HB := bs_ HB hb; clear hb ho11; obtain ⟨i012, hi012, _, hsz12, _⟩ := info_parts qO; obtain ⟨hcut12, hA12, hC12⟩ := jBb (P := Try.prog) (Value.int .u64) 0 35 22 .i64 Try.underlying35 hi012 hsz12 (some ad399) c0 l0 x3_1 (of_decide_eq_true am_) (of_decide_eq_true am_) HC0.out; have HR403 := jA.mk (Kd.jCx (h1 := fun _ => rfl) (hA12 _ (Kd.jBk HR0.out))); have HC403 := jA.mk hC12; clear hA12 hC12 hi012 hsz12) | ((with_reducible refine zK (b := .append) (xs := #[.tmp 20, .tmp 23]) rfl ?_); at_builtin; refine Kd.jAg (Kd.int .u64) (w0 := w) w.heap.size rfl (.tmp 20) (.tmp 23) 35 22 (.int .u64 0) 8 rfl Try.underlying35 qO rfl (by decide) (by omega) v401 y400 (l0.take (x3_1 : Int).toNat) _ _ _ (fun _ => True) (fun _ => False) rfl rfl ?aO ?aR (fun _ _ h => h) (fun _ h => h.elim) ?aF ?aB ?aS ?aL ?_; (case aR => first | (refine jBq (show (l0.take (x3_1 : Int).toNat).length = x3_1.toNat from (by rw [List.length_take]; have h_ : (x3_1 : Int) ≤ (l0.length : Int) := of_decide_eq_true am_; omega)) ?_; exact cb_ HR403 HB) | (exact cb_ HR403 HB)); (case aB => exact (bb_ HB)); (case aF => exact (fun _ _ => trivial)); (case aO => exact (rR_ HO402)); (case aS => exact (jB (bb_ HB))); (case aL => have := LMc9.out; have hlx_ := (show (l0.take (x3_1 : Int).toNat).length = x3_1.toNat from (by rw [List.length_take]; have h_ : (x3_1 : Int) ≤ (l0.length : Int) := of_decide_eq_true am_; omega)); omega); intro v405 w13 ho hb hg hat; rw [← Ny404.out] at ho; replace HB := jA.mk (hb); have HO406 := jA.mk (ho); clear HO402 ho hb hg hat))
          go_ret
          exact ⟨_, by first | rfl | (simp [vW, vV] <;> rfl) | (simp only [← hji3]; first | rfl | (simp [vW, vV] <;> rfl)) | (simp [*, vW, vV] <;> rfl), (rR_ HO406), (bb_ HB)⟩
         ·
          rw [if_neg c9] at H
          exact absurd H (by simp)
        ·
         rw [if_neg c8] at H
         exact absurd H (by simp)
       ·
        rw [if_neg c7] at H
        exact absurd H (by simp)
     ·
      rw [if_neg c5] at H
      exact absurd H (by simp)
    ·
     rw [if_neg c4] at H
     exact absurd H (by simp)
   ·
    rw [if_neg c2] at H
    have c2b0 := decide_eq_false c2
    clear c2
    obtain ⟨y407, hy407⟩ : ∃ y_ : List Int, y_ = (([] : List Int)) := ⟨_, rfl⟩
    replace H : (if 0 ≤ x3_1 then (if x3_1 ≤ (l0.length : Int) then (if y407.length + (l0.take (x3_1 : Int).toNat).length < 17592186044416 then (some (y407 ++ (l0.take (x3_1 : Int).toNat))) else (none)) else (none)) else (none)) = some r := by first | (rw [hy407]; with_reducible exact H) | (have H2_ := (Option.bind_some _ _).symm.trans H; rw [hy407]; with_reducible exact H2_) | (with_reducible exact hs_ H) | with_reducible exact H | (rw [hy407]; exact H) | exact H
    have Ny407 := jA.mk hy407
    clear hy407
    by_cases c14 : 0 ≤ x3_1
    ·
     rw [if_pos c14] at H
     have c14b0 := eq_true c14
     have c14b1 := decide_eq_true c14
     clear c14
     by_cases c15 : x3_1 ≤ (l0.length : Int)
     ·
      rw [if_pos c15] at H
      have c15b0 := eq_true c15
      have c15b1 := decide_eq_true c15
      clear c15
      by_cases c16 : y407.length + (l0.take (x3_1 : Int).toNat).length < 17592186044416
      ·
       rw [if_pos c16] at H
       have LMc16 := jA.mk c16
       clear c16
       obtain ⟨y411, hy411⟩ : ∃ y_ : List Int, y_ = (y407 ++ (l0.take (x3_1 : Int).toNat)) := ⟨_, rfl⟩
       replace H : (some y411) = some r := by first | (rw [hy411]; with_reducible exact H) | (have H2_ := (Option.bind_some _ _).symm.trans H; rw [hy411]; with_reducible exact H2_) | (with_reducible exact hs_ H) | with_reducible exact H | (rw [hy411]; exact H) | exact H
       have Ny411 := jA.mk hy411
       clear hy411
       obtain rfl := Option.some.inj H
       go_wp2_with (first | ((with_reducible refine jW (N := 19) rfl ?_); refine Kd.qy (Kd.int .u64) _ 22 ?hg (N := 19) ?hd (xs := ([] : List Int)) (inner := []) (ok := fun _ => True) (okp := fun _ => True) ?hr ?hp (fun _ hk => hk) trivial (Below.refl _ _) (Nat.le_refl _) (by simp) ?_; (case hd => rfl); (case hg => rfl); (case hr => exact gs_); (case hp => exact (Reps.none _ _)); intro v408 w17 ho18 hb hg_ hnew_; clear hg_ hnew_; (first | rw [← Ny407.out] at ho18 | (simp only [Int.reduceToNat] at ho18; rw [← Ny407.out] at ho18)); have HO409 := jA.mk (Kd.jL ho18 (jB (bb_ HB))); replace HB := bs_ HB hb; clear hb ho18; obtain ⟨i019, hi019, _, hsz19, _⟩ := info_parts qO; obtain ⟨hcut19, hA19, hC19⟩ := jBb (P := Try.prog) (Value.int .u64) 0 35 22 .i64 Try.underlying35 hi019 hsz19 A0 c0 l0 x3_1 (of_decide_eq_true am_) (of_decide_eq_true am_) HC0.out; have HR410 := jA.mk (Kd.jCx (h1 := fun _ => rfl) (hA19 _ (Kd.jBk HR0.out))); have HC410 := jA.mk hC19; clear hA19 hC19 hi019 hsz19) | ((with_reducible refine zK (b := .append) (xs := #[.tmp 20, .tmp 23]) rfl ?_); at_builtin; refine Kd.jAg (Kd.int .u64) (w0 := w) w.heap.size rfl (.tmp 20) (.tmp 23) 35 22 (.int .u64 0) 8 rfl Try.underlying35 qO rfl (by decide) (by omega) v408 y407 (l0.take (x3_1 : Int).toNat) _ _ _ (fun _ => True) (fun _ => False) rfl rfl ?aO ?aR (fun _ _ h => h) (fun _ h => h.elim) ?aF ?aB ?aS ?aL ?_; (case aR => first | (refine jBq (show (l0.take (x3_1 : Int).toNat).length = x3_1.toNat from (by rw [List.length_take]; have h_ : (x3_1 : Int) ≤ (l0.length : Int) := of_decide_eq_true am_; omega)) ?_; exact cb_ HR410 HB) | (exact cb_ HR410 HB)); (case aB => exact (bb_ HB)); (case aF => exact (fun _ _ => trivial)); (case aO => exact (rR_ HO409)); (case aS => exact (jB (bb_ HB))); (case aL => have := LMc16.out; have hlx_ := (show (l0.take (x3_1 : Int).toNat).length = x3_1.toNat from (by rw [List.length_take]; have h_ : (x3_1 : Int) ≤ (l0.length : Int) := of_decide_eq_true am_; omega)); omega); intro v412 w20 ho hb hg hat; rw [← Ny411.out] at ho; replace HB := jA.mk (hb); have HO413 := jA.mk (ho); clear HO409 ho hb hg hat))
       go_ret
       exact ⟨_, ew_, (rR_ HO413), (bb_ HB)⟩
      ·
       rw [if_neg c16] at H
       exact absurd H (by simp)
     ·
      rw [if_neg c15] at H
      exact absurd H (by simp)
    ·
     rw [if_neg c14] at H
     exact absurd H (by simp)
def vY.f (k : Nat) (a0 : Int) : Option (List Int) := (jg.f k (([a0] : List Int))).bind fun t417 => (some t417)
theorem vY.mono : ∀ a0 k, LeO (vY.f k a0) (vY.f (k + 1) a0) := by
 intro a0 k
 unfold vY.f
 repeat' first
   | (with_reducible exact jg.mono _ _)
   | (with_reducible exact LeO.refl _)
   | (with_reducible exact LeO.none _)
   | (with_reducible refine LeO.ite ?_ ?_)
   | (with_reducible refine LeO.bind ?_ (fun _ => ?_))
theorem vY.calls (k : Nat) (a0 : Int) (r : List Int) (w : World) (h : vY.f k a0 = some r) :
  Calls Try.prog 21 #[.int .u64 a0] w fun e w' => ∃ v0_ : Value, e = .returned (v0_) ∧ Kd.R (Kd.int .u64) 22 w' w.heap.size (fun _ => True) v0_ r ∧ Below w.heap.size w w' := by
 have HB := jA.mk (Below.refl w.heap.size w)
 have H : ((jg.f k (([a0] : List Int))).bind fun t417 => (some t417)) = some r := h
 clear h
 obtain ⟨y414, hy414⟩ : ∃ y_ : List Int, y_ = (([a0] : List Int)) := ⟨_, rfl⟩
 replace H : ((jg.f k y414).bind fun t417 => (some t417)) = some r := by first | (rw [hy414]; with_reducible exact H) | (have H2_ := (Option.bind_some _ _).symm.trans H; rw [hy414]; with_reducible exact H2_) | (with_reducible exact hs_ H) | with_reducible exact H | (rw [hy414]; exact H) | exact H
 have Ny414 := jA.mk hy414
 clear hy414
 replace H := ob_ H
 obtain ⟨t417, A20, H⟩ := H
 replace H : (some t417) = some r := H
 have A2 := jA.mk A20
 clear A20
 obtain rfl := Option.some.inj H
 go_enter Try.func21, Try.ntmps21
 go_wp2_with (first | ((with_reducible refine jW (N := 4) rfl ?_); refine Kd.qy (Kd.int .u64) _ 22 ?hg (N := 4) ?hd (xs := ([a0] : List Int)) (inner := [.int .u64 a0]) (ok := fun _ => True) (okp := fun _ => True) ?hr ?hp (fun _ hk => hk) trivial (Below.refl _ _) (Nat.le_refl _) (by simp) ?_; (case hd => rfl); (case hg => rfl); (case hr => exact gs_); (case hp => exact (Reps.one (show Kd.M (Kd.int .u64) _ _ _ a0 [.int .u64 a0] from rfl) (Reps.none _ _))); intro v415 w3 ho4 hb hg_ hnew_; clear hg_ hnew_; (first | rw [← Ny414.out] at ho4 | (simp only [Int.reduceToNat] at ho4; rw [← Ny414.out] at ho4)); have HO416 := jA.mk (Kd.jL ho4 (jB (bb_ HB))); replace HB := bs_ HB hb; clear hb ho4; obtain ⟨Ao5, co5, rfl⟩ := Kd.jP HO416.out) | ((with_reducible refine jD (f := 25) rfl ?_); refine gl_ (some 5) Try.func25 #[.slice Ao5 y414.length co5] ?_; (with_reducible refine (jg.calls k _ _ y414 t417 _ ?side1 ?side2 A2.out).mono ?_); (case side1 => exact cc_ (Kd.jC HO416.out).2.2); (case side2 => exact (Kd.jC HO416.out).2.1); rintro e w6 ⟨v418, rfl, ho0, hb⟩; refine ⟨_, rfl, ?_⟩; have HO419 := jA.mk (Kd.jL (Kd.jG ho0 (Kd.R_lt (rR_ HO416))) (jB (bb_ HB))); replace HO416 := re_ HO416 ho0 hb; replace HB := bs_ HB hb))
 go_ret
 exact ⟨_, ew_, by refine pR_ ?_; exact Kd.jO HO419.out (fun _ hk => trivial), (bb_ HB)⟩
def jH.l0 : Nat → List Int → List Int → Int → Option (List Int)
 | 0, _, _, _ => none
 | k + 1, x0, x3, x4 => if x4 < (x0.length : Int) then (if 0 ≤ x4 then ((some (([Int.tmod (rd x0 x4) 4294967296, IntKind.u64.wrap (Int.tdiv (rd x0 x4) 4294967296)] : List Int) : List Int)).bind fun y425 => (if x3.length + y425.length < 17592186044416 then (jH.l0 k x0 (x3 ++ y425) (wrap64 (x4 + 1))) else (none))) else (none)) else (some x3)
def jH.f (k : Nat) (l0 : List Int) : Option (List Int) := jH.l0 k l0 (([] : List Int)) 0
theorem jH.vQ : ∀ k, (∀ y0 y1 y2, LeO (jH.l0 k y0 y1 y2) (jH.l0 (k + 1) y0 y1 y2))
 | 0 => fun _ _ _ r h => by simp [jH.l0] at h
 | k + 1 => by
  have ih0 := jH.vQ k
  ·
   intro y0 y1 y2
   unfold jH.l0
   repeat' first
   | (with_reducible exact ih0 _ _ _)
   | (with_reducible exact LeO.refl _)
   | (with_reducible exact LeO.none _)
   | (with_reducible refine LeO.ite ?_ ?_)
   | (with_reducible refine LeO.bind ?_ (fun _ => ?_))
theorem jH.mono : ∀ a0 k, LeO (jH.f k a0) (jH.f (k + 1) a0) := by
 intro a0 k
 have ih0 := jH.vQ k
 unfold jH.f
 repeat' first
   | (with_reducible exact ih0 _ _ _)
   | (with_reducible exact LeO.refl _)
   | (with_reducible exact LeO.none _)
   | (with_reducible refine LeO.ite ?_ ?_)
   | (with_reducible refine LeO.bind ?_ (fun _ => ?_))
def jH.T5 : Bool × List (List Nat × List Nat) := (true, [([], []), ([], []), ([], []), ([1, 2], [1, 2]), ([3], [3]), ([4], [4]), ([], []), ([], []), ([6, 7], [6, 7]), ([8], [8]), ([9], [9]), ([5, 10], [5, 10]), ([0, 11], [0, 11]), ([12, 12, 0, 1, 2, 3, 4, 5, 6, 7, 8, 9, 10, 11, 12], [0, 12])])
def jH.B5 : List Nat := [0, 0, 0, 6, 14, 30, 0, 0, 192, 448, 960, 2046, 4095, 8191]
theorem jH.tab5 : rtab .any (opsOf Try.f68 5) = jH.T5 := by kernel_rfl
theorem jH.jHX : jAa jH.T5.2 jH.B5 = true := by kernel_rfl
theorem jH.calls (k : Nat) (A0 : Option Addr) (c0 : Nat) (l0 : List Int) (r : List Int) (w : World) (hr0 : Kd.C (Kd.int .u64) w A0 l0.length l0) (hc0 : l0.length ≤ c0) (h : jH.f k l0 = some r) :
  Calls Try.prog 68 #[.slice A0 l0.length c0] w fun e w' => ∃ v0_ : Value, e = .returned (v0_) ∧ Kd.R (Kd.int .u64) 22 w' w.heap.size (fun _ => True) v0_ r ∧ Below w.heap.size w w' := by
 have HR0 := jA.mk hr0
 have HC0 := jA.mk hc0
 clear hr0 hc0
 have HB := jA.mk (Below.refl w.heap.size w)
 have H : (jH.l0 k l0 (([] : List Int)) 0) = some r := h
 clear h
 obtain ⟨y420, hy420⟩ : ∃ y_ : List Int, y_ = (([] : List Int)) := ⟨_, rfl⟩
 replace H : (jH.l0 k l0 y420 0) = some r := by first | (rw [hy420]; with_reducible exact H) | (have H2_ := (Option.bind_some _ _).symm.trans H; rw [hy420]; with_reducible exact H2_) | (with_reducible exact hs_ H) | with_reducible exact H | (rw [hy420]; exact H) | exact H
 have Ny420 := jA.mk hy420
 clear hy420
 have H' := jA.mk H
 clear H
 go_enter Try.func68, Try.ntmps68
 go_wp2_with (first | ((with_reducible refine jW (N := 5) rfl ?_); refine Kd.qy (Kd.int .u64) _ 22 ?hg (N := 5) ?hd (xs := ([] : List Int)) (inner := []) (ok := fun _ => True) (okp := fun _ => True) ?hr ?hp (fun _ hk => hk) trivial (Below.refl _ _) (Nat.le_refl _) (by simp) ?_; (case hd => rfl); (case hg => rfl); (case hr => exact gs_); (case hp => exact (Reps.none _ _)); intro v421 w2 ho3 hb hg_ hnew_; clear hg_ hnew_; (first | rw [← Ny420.out] at ho3 | (simp only [Int.reduceToNat] at ho3; rw [← Ny420.out] at ho3)); have HO422 := jA.mk (Kd.jL ho3 (jB (bb_ HB))); replace HB := bs_ HB hb; clear hb ho3))
 go_loopg [3, 4] k (fun kq v3 v4 w' => ∃ (x3_1 : List Int) (x4_1 : Int), v4 = .int .i64 x4_1 ∧ jA (jH.l0 kq l0 x3_1 x4_1 = some r) ∧ jA (kq ≤ k) ∧ jA (Kd.R (Kd.int .u64) 22 w' w.heap.size (fun _ => True) v3 x3_1) ∧ jA (Below w.heap.size w w'))
 case atStart => exact ⟨(y420), (0), sd_, H', ⟨Nat.le_refl _⟩, ⟨(rR_ HO422)⟩, ⟨(bb_ HB)⟩⟩
 case round =>
  clear H'
  try clear p2
  obtain ⟨x3_1, x4_1, rfl, HA, HK1, HO_3, HB⟩ := hrel
  cases gk with
  | zero => exact absurd HA.out (by simp [jH.l0])
  | succ k1 =>
   have H := HA.out
   clear HA
   simp only [jH.l0] at H
   by_cases c4 : x4_1 < (l0.length : Int)
   ·
    rw [if_pos c4] at H
    have c4b0 := decide_eq_true c4
    clear c4
    by_cases c5 : 0 ≤ x4_1
    ·
     rw [if_pos c5] at H
     have c5b0 := decide_eq_true c5
     clear c5
     obtain ⟨ji6, hji6⟩ : ∃ j_ : Int, (Int.tmod (rd l0 x4_1) 4294967296) = j_ := ⟨_, rfl⟩
     replace H : ((some (([ji6, IntKind.u64.wrap (Int.tdiv (rd l0 x4_1) 4294967296)] : List Int) : List Int)).bind fun y425 => (if x3_1.length + y425.length < 17592186044416 then (jH.l0 k1 l0 (x3_1 ++ y425) (wrap64 (x4_1 + 1))) else (none))) = some r := by first | (rw [hji6] at H; exact H) | (simp only [hji6] at H ⊢; exact H)
     obtain ⟨y425, hy425⟩ : ∃ y_ : List Int, y_ = (([ji6, IntKind.u64.wrap (Int.tdiv (rd l0 x4_1) 4294967296)] : List Int)) := ⟨_, rfl⟩
     replace H : (if x3_1.length + y425.length < 17592186044416 then (jH.l0 k1 l0 (x3_1 ++ y425) (wrap64 (x4_1 + 1))) else (none)) = some r := by first | (rw [hy425]; with_reducible exact H) | (have H2_ := (Option.bind_some _ _).symm.trans H; rw [hy425]; with_reducible exact H2_) | (with_reducible exact hs_ H) | with_reducible exact H | (rw [hy425]; exact H) | exact H
     have Ny425 := jA.mk hy425
     clear hy425
     by_cases c7 : x3_1.length + y425.length < 17592186044416
     ·
      rw [if_pos c7] at H
      have LMc7 := jA.mk c7
      clear c7
      obtain ⟨y428, hy428⟩ : ∃ y_ : List Int, y_ = (x3_1 ++ y425) := ⟨_, rfl⟩
      replace H : (jH.l0 k1 l0 y428 (wrap64 (x4_1 + 1))) = some r := by first | (rw [hy428]; with_reducible exact H) | (have H2_ := (Option.bind_some _ _).symm.trans H; rw [hy428]; with_reducible exact H2_) | (with_reducible exact hs_ H) | with_reducible exact H | (rw [hy428]; exact H) | exact H
      have Ny428 := jA.mk hy428
      clear hy428
      have H' := jA.mk H
      clear H
      try go_wp2
      have n0_ := jA.mk (Kd.zP HO_3.out)
      have n1_ := jA.mk (zk HB.out)
      clear HO_3
      clear HB
      have HO_3 := n0_
      have HB := n1_
      clear n0_ n1_
      have p423 : 0 ≤ (x4_1 : Int) := of_decide_eq_true am_
      have q423 : x4_1 < (l0.length : Int) := of_decide_eq_true am_
      obtain ⟨ad423, e423, hx423_0⟩ := Kd.zJ HR0.out x4_1 p423 q423
      have hw423_0 := hx423_0
      cases e423
      replace hx423_0 := (HB.out.cell (World.block_lt_of_cell? w _ hx423_0)).trans hx423_0
      replace p423 := eq_true p423
      replace q423 := eq_true q423
      have p424 : 0 ≤ (x4_1 : Int) := of_decide_eq_true am_
      have q424 : x4_1 < (l0.length : Int) := of_decide_eq_true am_
      obtain ⟨ad424, e424, hx424_0⟩ := Kd.zJ HR0.out x4_1 p424 q424
      have hw424_0 := hx424_0
      obtain rfl : ad423 = ad424 := (by injection e424)
      replace hx424_0 := (HB.out.cell (World.block_lt_of_cell? w _ hx424_0)).trans hx424_0
      replace p424 := eq_true p424
      replace q424 := eq_true q424
      refine jAk (n := 14) (S := fun w' => w'.cell? (ad423.add (x4_1).toNat) = some (.int .u64 (rd l0 x4_1)) ∧ w'.cell? (ad423.add (x4_1).toNat) = some (.int .u64 (rd l0 x4_1))) (ds := []) #[false, false, false, false, false, false, false, false, false, false, false, false, false, false] kr_ rfl rfl ⟨((HB.out.cell (World.block_lt_of_cell? w _ hw423_0)).trans hw423_0), ((HB.out.cell (World.block_lt_of_cell? w _ hw424_0)).trans hw424_0)⟩ (fun hHeld => ?_); refine jAK jH.tab5 jH.jHX (fun HT_ HW_ => ?_)
      generalize wr.drew = w8 at HO_3 HB hx423_0 hx424_0 hHeld ⊢
      refine pu_ 0 (some 12) (ba_ 14 1) (vL HT_.out kr_) ?_
      refine pu_ 1 (some 13) (ba_ 14 3) (vL HT_.out kr_) ?_
      refine pu_ 2 (some 14) (ba_ 14 7) (vL HT_.out kr_) ?_
      refine pu_ 3 (some 15) (ba_ 14 15) (vL HT_.out kr_) ?_
      refine pu_ 6 (some 18) (ba_ 14 79) (vL HT_.out kr_) ?_
      refine pu_ 7 (some 19) (ba_ 14 207) (vL HT_.out kr_) ?_
      refine pu_ 8 (some 20) (ba_ 14 463) (vL HT_.out kr_) ?_
      refine tk2_ 4 (some 16) (ba_ 14 479) (qF HT_.out HW_.out kr_) hHeld ?_
      refine pu_ 5 (some 17) (ba_ 14 511) (vL HT_.out kr_) ?_
      refine tk2_ 9 (some 21) (ba_ 14 1023) (qF HT_.out HW_.out kr_) hHeld ?_
      refine pu_ 10 (some 22) (ba_ 14 2047) (vL HT_.out kr_) ?_
      refine one_ (i := 11) (N := some 23) (ba_ 14 4095) rfl rfl (ql HT_.out kr_) (by decide) (fun K hK => ?_)
      refine Kd.qm (Kd.int .u64) _ 22 ?hg (N := 23) ?hd (xs := ([ji6, IntKind.u64.wrap (Int.tdiv (rd l0 x4_1) 4294967296)] : List Int)) (inner := [.int .u64 ji6, .int .u64 (IntKind.u64.wrap (Int.tdiv (rd l0 x4_1) 4294967296))]) (ok := fun _ => True) (okp := fun _ => True) ?hr ?hp (fun _ hk => hk) trivial (Below.refl _ _) (Nat.le_refl _) (by simp) ?_; (case hd => rfl); (case hg => rfl); (case hr => exact gs_); (case hp => exact (Reps.one (show Kd.M (Kd.int .u64) _ _ _ ji6 [.int .u64 ji6] from rfl) (Reps.one (show Kd.M (Kd.int .u64) _ _ _ (IntKind.u64.wrap (Int.tdiv (rd l0 x4_1) 4294967296)) [.int .u64 (IntKind.u64.wrap (Int.tdiv (rd l0 x4_1) 4294967296))] from rfl) (Reps.none _ _))))
      intro v426 w9 ho10 hb hg_ hnew_
      clear hg_ hnew_
      (first | rw [← Ny425.out] at ho10 | (simp only [Int.reduceToNat] at ho10; rw [← Ny425.out] at ho10))
      have n0_ := re_ HO_3 ho10 hb
      have n1_ := jA.mk (Kd.jL (Kd.jG ho10 (Kd.R_lt (rR_ HO_3))) (jB (bb_ HB)))
      have n2_ := bs_ HB hb
      clear HO_3
      clear HB
      have HO_3 := n0_
      have HO427 := n1_
      have HB := n2_
      clear n0_ n1_ n2_
      clear hb ho10
      obtain ⟨Ao12, co12, eo12⟩ := Kd.jP HO427.out
      (first | subst eo12 | (injection eo12 with f1_ f2_ f3_; have f4_ := f1_.symm; have f5_ := f3_.symm; clear f1_ f2_ f3_; subst f4_; subst f5_))
      refine hK.out _ _ ⟨((HB.out.cell (World.block_lt_of_cell? w _ hw423_0)).trans hw423_0), ((HB.out.cell (World.block_lt_of_cell? w _ hw424_0)).trans hw424_0)⟩ (fun hHeld => ?_)
      clear hK K
      refine ns_ 23 ?_
      refine one_ (i := 12) (N := some 24) (ba_ 14 8191) rfl rfl (ql HT_.out kr_) (by decide) (fun K hK => ?_)
      refine Kd.jBi (Kd.int .u64) (w0 := w) w.heap.size (by rfl) (.tmp 12) (.tmp 23) 35 22 (.int .u64 0) 8 rfl Try.underlying35 qO rfl (by decide) (by omega) u3 x3_1 y425 _ _ _ (fun k_ => some k_ ≠ (.slice Ao12 y425.length co12 : Value).ownBlock) (fun _ => False) rfl rfl ?aO ?aR (fun _ _ h => h) (fun _ h => h.elim) ?aF ?aB ?aS ?aL ?_
      (case aR => exact cc_ (Kd.jC HO427.out).2.2)
      (case aB => exact (bb_ HB))
      (case aF => exact (fun k_ hk => Kd.fresh' (Kd.R_lt (rR_ HO427)) k_ hk))
      (case aO => exact (by refine pR_ ?_; exact Kd.jO HO_3.out (fun _ hk => hk.2)))
      (case aS => exact (jB (bb_ HB)))
      (case aL => have := LMc7.out; omega)
      intro v429 w11 ho hb hg hat
      rw [← Ny428.out] at ho
      have n0_ := jA.mk (Kd.zh (ok := (fun _ => True)) (rR_ HO427) hg hat)
      have n1_ := jA.mk (hb)
      have n2_ := jA.mk (ho)
      clear HO427
      clear HB
      clear HO_3
      have HO427 := n0_
      have HB := n1_
      have HO430 := n2_
      clear n0_ n1_ n2_
      clear ho hb hg hat
      refine hK.out _ _ ⟨((HB.out.cell (World.block_lt_of_cell? w _ hw423_0)).trans hw423_0), ((HB.out.cell (World.block_lt_of_cell? w _ hw424_0)).trans hw424_0)⟩ (fun hHeld => ?_)
      clear hK K
      refine ns_ 24 ?_
      refine pu_ 13 (some 3) (ba_ 14 16383) (vL HT_.out kr_) ?_
      refine jBH (jAt HT_.out kr_) ?_
      try go_wp2
      go_roundg k1
      case measure => have := HK1.out; omega
      case rel => exact ⟨(y428), (wrap64 (x4_1 + 1)), sd_, H', ⟨by have := HK1.out; omega⟩, ⟨by (with_reducible repeat (first | apply Kd.zG | apply Kd.zM | apply Kd.zP)); exact Kd.jO HO430.out (fun _ hk => trivial)⟩, ⟨(bb_ HB)⟩⟩
     ·
      rw [if_neg c7] at H
      exact absurd H (by simp)
    ·
     rw [if_neg c5] at H
     exact absurd H (by simp)
   ·
    rw [if_neg c4] at H
    have c4b0 := decide_eq_false c4
    clear c4
    obtain rfl := Option.some.inj H
    go_wp2
    go_ret
    exact ⟨_, ew_, (rR_ HO_3), (bb_ HB)⟩
def jr.f (l0 : List Int) (a1 : Int) : Option (Int) := if a1 < (l0.length : Int) then (if 0 ≤ a1 then (some (rd l0 a1)) else (none)) else (some 0)
theorem jr.calls (A0 : Option Addr) (c0 : Nat) (l0 : List Int) (a1 : Int) (r : Int) (w : World) (hr0 : Kd.C (Kd.int .u64) w A0 l0.length l0) (hc0 : l0.length ≤ c0) (h : jr.f l0 a1 = some r) :
  Calls Try.prog 69 #[.slice A0 l0.length c0, .int .i64 a1] w fun e w' => e = .returned (.int .u64 r) ∧ zl w w' := by
 have HR0 := jA.mk hr0
 have HC0 := jA.mk hc0
 clear hr0 hc0
 have H : (if a1 < (l0.length : Int) then (if 0 ≤ a1 then (some (rd l0 a1)) else (none)) else (some 0)) = some r := h
 clear h
 by_cases c3 : a1 < (l0.length : Int)
 ·
  rw [if_pos c3] at H
  have c3b0 := decide_eq_true c3
  clear c3
  by_cases c4 : 0 ≤ a1
  ·
   rw [if_pos c4] at H
   have c4b0 := decide_eq_true c4
   clear c4
   obtain rfl := Option.some.inj H
   have p431 : 0 ≤ (a1 : Int) := of_decide_eq_true am_
   have q431 : a1 < (l0.length : Int) := of_decide_eq_true am_
   obtain ⟨ad431, e431, hx431_0⟩ := Kd.zJ HR0.out a1 p431 q431
   cases e431
   replace p431 := eq_true p431
   replace q431 := eq_true q431
   go_enter Try.func69, Try.ntmps69
   go_wp2
   go_ret
   exact ⟨by first | rfl | (simp; done) | (simp [*]; done), by repeat (first | exact zl.refl _ | apply zl.step)⟩
  ·
   rw [if_neg c4] at H
   exact absurd H (by simp)
 ·
  rw [if_neg c3] at H
  have c3b0 := decide_eq_false c3
  clear c3
  obtain rfl := Option.some.inj H
  go_enter Try.func69, Try.ntmps69
  go_wp2
  go_ret
  exact ⟨by first | rfl | (simp; done) | (simp [*]; done), by repeat (first | exact zl.refl _ | apply zl.step)⟩
def jN.l0 : Nat → List Int → List Int → Int → Option (List Int)
 | 0, _, _, _ => none
 | k + 1, x0, x3, x4 => if x4 < (x0.length : Int) then (if 0 ≤ x4 then (if (wrap64 (x4 + 1)) < (x0.length : Int) then (if 0 ≤ (wrap64 (x4 + 1)) then (if x3.length < 17592186044416 then (jN.l0 k x0 (x3 ++ [IntKind.u64.wrap ((rd x0 x4) + (IntKind.u64.wrap ((rd x0 (wrap64 (x4 + 1))) * 4294967296)))]) (wrap64 (x4 + 2))) else (none)) else (none)) else (if x3.length < 17592186044416 then (jN.l0 k x0 (x3 ++ [rd x0 x4]) (wrap64 (x4 + 2))) else (none))) else (none)) else ((jg.f k x3).bind fun t443 => (some t443))
def jN.f (k : Nat) (l0 : List Int) : Option (List Int) := jN.l0 k l0 (([] : List Int)) 0
theorem jN.vQ : ∀ k, (∀ y0 y1 y2, LeO (jN.l0 k y0 y1 y2) (jN.l0 (k + 1) y0 y1 y2))
 | 0 => fun _ _ _ r h => by simp [jN.l0] at h
 | k + 1 => by
  have ih0 := jN.vQ k
  ·
   intro y0 y1 y2
   unfold jN.l0
   repeat' first
   | (with_reducible exact ih0 _ _ _)
   | (with_reducible exact jg.mono _ _)
   | (with_reducible exact LeO.refl _)
   | (with_reducible exact LeO.none _)
   | (with_reducible refine LeO.ite ?_ ?_)
   | (with_reducible refine LeO.bind ?_ (fun _ => ?_))
theorem jN.mono : ∀ a0 k, LeO (jN.f k a0) (jN.f (k + 1) a0) := by
 intro a0 k
 have ih0 := jN.vQ k
 unfold jN.f
 repeat' first
   | (with_reducible exact ih0 _ _ _)
   | (with_reducible exact jg.mono _ _)
   | (with_reducible exact LeO.refl _)
   | (with_reducible exact LeO.none _)
   | (with_reducible refine LeO.ite ?_ ?_)
   | (with_reducible refine LeO.bind ?_ (fun _ => ?_))
theorem jN.calls (k : Nat) (A0 : Option Addr) (c0 : Nat) (l0 : List Int) (r : List Int) (w : World) (hr0 : Kd.C (Kd.int .u64) w A0 l0.length l0) (hc0 : l0.length ≤ c0) (h : jN.f k l0 = some r) :
  Calls Try.prog 70 #[.slice A0 l0.length c0] w fun e w' => ∃ v0_ : Value, e = .returned (v0_) ∧ Kd.R (Kd.int .u64) 22 w' w.heap.size (fun _ => True) v0_ r ∧ Below w.heap.size w w' := by
 have HR0 := jA.mk hr0
 have HC0 := jA.mk hc0
 clear hr0 hc0
 have HB := jA.mk (Below.refl w.heap.size w)
 have H : (jN.l0 k l0 (([] : List Int)) 0) = some r := h
 clear h
 obtain ⟨y432, hy432⟩ : ∃ y_ : List Int, y_ = (([] : List Int)) := ⟨_, rfl⟩
 replace H : (jN.l0 k l0 y432 0) = some r := by first | (rw [hy432]; with_reducible exact H) | (have H2_ := (Option.bind_some _ _).symm.trans H; rw [hy432]; with_reducible exact H2_) | (with_reducible exact hs_ H) | with_reducible exact H | (rw [hy432]; exact H) | exact H
 have Ny432 := jA.mk hy432
 clear hy432
 have H' := jA.mk H
 clear H
 go_enter Try.func70, Try.ntmps70
 go_wp2_with (first | ((with_reducible refine jW (N := 6) rfl ?_); refine Kd.qy (Kd.int .u64) _ 22 ?hg (N := 6) ?hd (xs := ([] : List Int)) (inner := []) (ok := fun _ => True) (okp := fun _ => True) ?hr ?hp (fun _ hk => hk) trivial (Below.refl _ _) (Nat.le_refl _) (by simp) ?_; (case hd => rfl); (case hg => rfl); (case hr => exact gs_); (case hp => exact (Reps.none _ _)); intro v433 w2 ho3 hb hg_ hnew_; clear hg_ hnew_; (first | rw [← Ny432.out] at ho3 | (simp only [Int.reduceToNat] at ho3; rw [← Ny432.out] at ho3)); have HO434 := jA.mk (Kd.jL ho3 (jB (bb_ HB))); replace HB := bs_ HB hb; clear hb ho3))
 go_loopg [3, 4] k (fun kq v3 v4 w' => ∃ (x3_1 : List Int) (x4_1 : Int), v4 = .int .i64 x4_1 ∧ jA (jN.l0 kq l0 x3_1 x4_1 = some r) ∧ jA (kq ≤ k) ∧ jA (Kd.R (Kd.int .u64) 22 w' w.heap.size (fun _ => True) v3 x3_1) ∧ jA (Below w.heap.size w w'))
 case atStart => exact ⟨(y432), (0), sd_, H', ⟨Nat.le_refl _⟩, ⟨(rR_ HO434)⟩, ⟨(bb_ HB)⟩⟩
 case round =>
  clear H'
  try clear p2
  obtain ⟨x3_1, x4_1, rfl, HA, HK1, HO_3, HB⟩ := hrel
  cases gk with
  | zero => exact absurd HA.out (by simp [jN.l0])
  | succ k1 =>
   have H := HA.out
   clear HA
   simp only [jN.l0] at H
   by_cases c4 : x4_1 < (l0.length : Int)
   ·
    rw [if_pos c4] at H
    have c4b0 := decide_eq_true c4
    clear c4
    by_cases c5 : 0 ≤ x4_1
    ·
     rw [if_pos c5] at H
     have c5b0 := decide_eq_true c5
     clear c5
     by_cases c6 : (wrap64 (x4_1 + 1)) < (l0.length : Int)
     ·
      rw [if_pos c6] at H
      have c6b0 := decide_eq_true c6
      clear c6
      obtain ⟨ji7, hji7⟩ : ∃ j_ : Int, (wrap64 (x4_1 + 1)) = j_ := ⟨_, rfl⟩
      replace H : (if 0 ≤ (ji7) then (if x3_1.length < 17592186044416 then (jN.l0 k1 l0 (x3_1 ++ [IntKind.u64.wrap ((rd l0 x4_1) + (IntKind.u64.wrap ((rd l0 (ji7)) * 4294967296)))]) (wrap64 (x4_1 + 2))) else (none)) else (none)) = some r := by first | (rw [hji7] at H; exact H) | (simp only [hji7] at H ⊢; exact H)
      (try rw [hji7] at c6b0)
      have hji7w : (IntKind.i64.wrap (x4_1 + 1)) = ji7 := (qg _).trans hji7
      by_cases c8 : 0 ≤ (ji7)
      ·
       rw [if_pos c8] at H
       have c8b0 := decide_eq_true c8
       clear c8
       by_cases c9 : x3_1.length < 17592186044416
       ·
        rw [if_pos c9] at H
        have LMc9 := jA.mk c9
        clear c9
        obtain ⟨y437, hy437⟩ : ∃ y_ : List Int, y_ = (x3_1 ++ [IntKind.u64.wrap ((rd l0 x4_1) + (IntKind.u64.wrap ((rd l0 (ji7)) * 4294967296)))]) := ⟨_, rfl⟩
        replace H : (jN.l0 k1 l0 y437 (wrap64 (x4_1 + 2))) = some r := by first | (rw [hy437]; with_reducible exact H) | (have H2_ := (Option.bind_some _ _).symm.trans H; rw [hy437]; with_reducible exact H2_) | (with_reducible exact hs_ H) | with_reducible exact H | (rw [hy437]; exact H) | exact H
        have Ny437 := jA.mk hy437
        clear hy437
        have H' := jA.mk H
        clear H
        have p435 : 0 ≤ (x4_1 : Int) := of_decide_eq_true am_
        have q435 : x4_1 < (l0.length : Int) := of_decide_eq_true am_
        obtain ⟨ad435, e435, hx435_0⟩ := Kd.zJ HR0.out x4_1 p435 q435
        cases e435
        replace hx435_0 := (HB.out.cell (World.block_lt_of_cell? w _ hx435_0)).trans hx435_0
        replace p435 := eq_true p435
        replace q435 := eq_true q435
        have p436 : 0 ≤ ((ji7) : Int) := of_decide_eq_true am_
        have q436 : (ji7) < (l0.length : Int) := of_decide_eq_true am_
        obtain ⟨ad436, e436, hx436_0⟩ := Kd.zJ HR0.out (ji7) p436 q436
        obtain rfl : ad435 = ad436 := (by injection e436)
        replace hx436_0 := (HB.out.cell (World.block_lt_of_cell? w _ hx436_0)).trans hx436_0
        replace p436 := eq_true p436
        replace q436 := eq_true q436
        go_wp2_with (first | ((with_reducible refine zK (b := .append) (xs := #[.tmp 30, .tmp 32]) rfl ?_); at_builtin; refine Kd.qh (Kd.int .u64) (w0 := w) w.heap.size rfl (.tmp 30) (.tmp 32) 35 22 (.int .u64 0) 8 rfl Try.underlying35 qO rfl (by decide) (by omega) u3 x3_1 (IntKind.u64.wrap ((rd l0 x4_1) + (IntKind.u64.wrap ((rd l0 (ji7)) * 4294967296)))) [.int .u64 (IntKind.u64.wrap ((rd l0 x4_1) + (IntKind.u64.wrap ((rd l0 (ji7)) * 4294967296))))] (fun _ => True) (fun _ => False) rfl rfl ?aP (fun _ hk => hk.elim) ?aF ?aO ?aB ?aS ?aL ?_; (case aP => exact rfl); (case aB => exact (bb_ HB)); (case aF => exact (fun _ _ => trivial)); (case aO => exact (rR_ HO_3)); (case aS => exact (jB (bb_ HB))); (case aL => have := LMc9.out; omega); intro v438 w10 ho hb hg hat; rw [← Ny437.out] at ho; replace HB := jA.mk (hb); have HO439 := jA.mk (ho); clear HO_3 ho hb hg hat))
        go_roundg k1
        case measure => have := HK1.out; omega
        case rel => exact ⟨(y437), (wrap64 (x4_1 + 2)), sd_, H', ⟨by have := HK1.out; omega⟩, ⟨(rR_ HO439)⟩, ⟨(bb_ HB)⟩⟩
       ·
        rw [if_neg c9] at H
        exact absurd H (by simp)
      ·
       rw [if_neg c8] at H
       exact absurd H (by simp)
     ·
      rw [if_neg c6] at H
      have c6b0 := decide_eq_false c6
      clear c6
      by_cases c11 : x3_1.length < 17592186044416
      ·
       rw [if_pos c11] at H
       have LMc11 := jA.mk c11
       clear c11
       obtain ⟨y440, hy440⟩ : ∃ y_ : List Int, y_ = (x3_1 ++ [rd l0 x4_1]) := ⟨_, rfl⟩
       replace H : (jN.l0 k1 l0 y440 (wrap64 (x4_1 + 2))) = some r := by first | (rw [hy440]; with_reducible exact H) | (have H2_ := (Option.bind_some _ _).symm.trans H; rw [hy440]; with_reducible exact H2_) | (with_reducible exact hs_ H) | with_reducible exact H | (rw [hy440]; exact H) | exact H
       have Ny440 := jA.mk hy440
       clear hy440
       have H' := jA.mk H
       clear H
       have p435 : 0 ≤ (x4_1 : Int) := of_decide_eq_true am_
       have q435 : x4_1 < (l0.length : Int) := of_decide_eq_true am_
       obtain ⟨ad435, e435, hx435_0⟩ := Kd.zJ HR0.out x4_1 p435 q435
       cases e435
       replace hx435_0 := (HB.out.cell (World.block_lt_of_cell? w _ hx435_0)).trans hx435_0
       replace p435 := eq_true p435
       replace q435 := eq_true q435
       go_wp2_with (first | ((with_reducible refine zK (b := .append) (xs := #[.tmp 30, .tmp 32]) rfl ?_); at_builtin; refine Kd.qh (Kd.int .u64) (w0 := w) w.heap.size rfl (.tmp 30) (.tmp 32) 35 22 (.int .u64 0) 8 rfl Try.underlying35 qO rfl (by decide) (by omega) u3 x3_1 (rd l0 x4_1) [.int .u64 (rd l0 x4_1)] (fun _ => True) (fun _ => False) rfl rfl ?aP (fun _ hk => hk.elim) ?aF ?aO ?aB ?aS ?aL ?_; (case aP => exact rfl); (case aB => exact (bb_ HB)); (case aF => exact (fun _ _ => trivial)); (case aO => exact (rR_ HO_3)); (case aS => exact (jB (bb_ HB))); (case aL => have := LMc11.out; omega); intro v441 w12 ho hb hg hat; rw [← Ny440.out] at ho; replace HB := jA.mk (hb); have HO442 := jA.mk (ho); clear HO_3 ho hb hg hat))
       go_roundg k1
       case measure => have := HK1.out; omega
       case rel => exact ⟨(y440), (wrap64 (x4_1 + 2)), sd_, H', ⟨by have := HK1.out; omega⟩, ⟨(rR_ HO442)⟩, ⟨(bb_ HB)⟩⟩
      ·
       rw [if_neg c11] at H
       exact absurd H (by simp)
    ·
     rw [if_neg c5] at H
     exact absurd H (by simp)
   ·
    rw [if_neg c4] at H
    have c4b0 := decide_eq_false c4
    clear c4
    replace H := ob_ H
    obtain ⟨t443, A130, H⟩ := H
    replace H : (some t443) = some r := H
    have A13 := jA.mk A130
    clear A130
    obtain rfl := Option.some.inj H
    obtain ⟨Ao14, co14, eo14⟩ := Kd.jP HO_3.out
    subst eo14
    go_wp2_with (first | ((with_reducible refine jD (f := 25) rfl ?_); refine gl_ (some 35) Try.func25 #[.slice Ao14 x3_1.length co14] ?_; (with_reducible refine (jg.calls k1 _ _ x3_1 t443 _ ?side1 ?side2 A13.out).mono ?_); (case side1 => exact cc_ (Kd.jC HO_3.out).2.2); (case side2 => exact (Kd.jC HO_3.out).2.1); rintro e w15 ⟨v444, rfl, ho0, hb⟩; refine ⟨_, rfl, ?_⟩; have HO445 := jA.mk (Kd.jL (Kd.jG ho0 (Kd.R_lt (rR_ HO_3))) (jB (bb_ HB))); replace HO_3 := re_ HO_3 ho0 hb; replace HB := bs_ HB hb))
    go_ret
    exact ⟨_, ew_, by refine pR_ ?_; exact Kd.jO HO445.out (fun _ hk => trivial), (bb_ HB)⟩
end Go.Proofs.Ytijgeonhbmgikaa.PORatioMakes
