-- printed (pr.py)
import Derived.Test.YtoganbmeedimiaaGreatPOPressOnex8
namespace Go.Proofs.YtoganbmeedimiaaGreat.POPressOne
open Go.RowKit Go.Proofs.YtoganbmeedimiaaGreatN Go.Proofs.YtoganbmeedimiaaGreatW.PrintWords Go.Proofs.YtoganbmeedimiaaGreatW.PrintLast Go.Proofs.YtoganbmeedimiaaGreatW.PrintMore
attribute [local go_sem] zV zR qA zy vZ vY zU zQ
set_option maxHeartbeats 8000000
set_option maxRecDepth 100000
set_option linter.unusedVariables false
set_option linter.unusedSimpArgs false
def vR.f (k : Nat) (a0_0 : Bool) (l0_1 : List Int) (l0_2 : List Int) : Option (Bool) := (je.f k l0_1 l0_2).bind fun bt267 => (if bt267.2 = 0 then (if (l0_2.length : Int) > 0 then ((ql.f k bt267.1 (([1] : List Int))).bind fun t274 => (if t274 = 0 then (if a0_0 = true then ((zJ.f a0_0 l0_1 l0_2).bind fun t275 => (some (!t275))) else (some true)) else (some false))) else (some false)) else (some false))
theorem vR.mono : ∀ a0 a1 a2 k, LeO (vR.f k a0 a1 a2) (vR.f (k + 1) a0 a1 a2) := by
 intro a0 a1 a2 k
 unfold vR.f
 repeat' first
   | (with_reducible exact ql.mono _ _ _)
   | (with_reducible exact je.mono _ _ _)
   | (with_reducible exact LeO.refl _)
   | (with_reducible exact LeO.none _)
   | (with_reducible refine LeO.ite ?_ ?_)
   | (with_reducible refine LeO.bind ?_ (fun _ => ?_))
theorem vR.calls (k : Nat) (a0_0 : Bool) (A0_1 : Option Addr) (c0_1 : Nat) (l0_1 : List Int) (A0_2 : Option Addr) (c0_2 : Nat) (l0_2 : List Int) (r : Bool) (w : World) (hr0_1 : Kd.C (Kd.int .u64) w A0_1 l0_1.length l0_1) (hc0_1 : l0_1.length ≤ c0_1) (hr0_2 : Kd.C (Kd.int .u64) w A0_2 l0_2.length l0_2) (hc0_2 : l0_2.length ≤ c0_2) (h : vR.f k a0_0 l0_1 l0_2 = some r) :
  Calls Tryz.prog 74 #[.agg #[.bool a0_0, .slice A0_1 l0_1.length c0_1, .slice A0_2 l0_2.length c0_2]] w fun e w' => e = .returned (.bool r) ∧ Below w.heap.size w w' := by
 have hu33 := Tryz.underlying33
 have HR0_1 := jA.mk hr0_1
 have HC0_1 := jA.mk hc0_1
 clear hr0_1 hc0_1
 have HR0_2 := jA.mk hr0_2
 have HC0_2 := jA.mk hc0_2
 clear hr0_2 hc0_2
 have HB := jA.mk (Below.refl w.heap.size w)
 have H : ((je.f k l0_1 l0_2).bind fun bt267 => (if bt267.2 = 0 then (if (l0_2.length : Int) > 0 then ((ql.f k bt267.1 (([1] : List Int))).bind fun t274 => (if t274 = 0 then (if a0_0 = true then ((zJ.f a0_0 l0_1 l0_2).bind fun t275 => (some (!t275))) else (some true)) else (some false))) else (some false)) else (some false))) = some r := h
 clear h
 replace H := ob_ H
 obtain ⟨⟨t267, t268⟩, A20, H⟩ := H
 try dsimp only at H
 have A2 := jA.mk A20
 clear A20
 by_cases c3 : t268 = 0
 rotate_left
 ·
  rw [if_neg c3] at H
  have c3b0 := beq_eq_false_iff_ne.mpr c3
  have c3b1 := bne_iff_ne.mpr c3
  obtain rfl := Option.some.inj H
  go_enter Tryz.func74, Tryz.ntmps74
  go_wp2_with (first | ((with_reducible refine jl (N := 1) rfl ?_); (try (refine jg (by rfl) ?_; dsimp only)); refine bx_ 1 #[.bool a0_0, .slice A0_1 l0_1.length c0_1, .slice A0_2 l0_2.length c0_2] 33 ?_; intro gb266 hg w43 hbox hb; have BK266 := jA.mk (hbox); have GW266 := jA.mk ((by rw [hg]; exact (jE (bb_ HB)) : w.heap.size ≤ gb266)); have GE266 := GW266; replace HB := bs_ HB hb; clear hb hbox hg; obtain ⟨hcz44_0, hcz44_1, hcz44_2, hfz44_0, hfz44_1, hfz44_2⟩ := bf3_ BK266) | ((with_reducible refine jL (f := 103) rfl ?_); refine gl_ (some 10) Tryz.func103 #[.slice A0_1 l0_1.length c0_1, .slice A0_2 l0_2.length c0_2] ?_; (with_reducible refine (je.calls k _ _ l0_1 _ _ l0_2 t267 t268 _ ?side1 ?side2 ?side3 ?side4 A2.out).mono ?_); (case side1 => exact cb_ HR0_1 HB); (case side2 => exact HC0_1.out); (case side3 => exact cb_ HR0_2 HB); (case side4 => exact HC0_2.out); rintro e w45 ⟨v269, rfl, ho0, hb⟩; refine ⟨_, rfl, ?_⟩; have HO270 := jA.mk (Kd.jk ho0 (jE (bb1_ HB GE266))); replace BK266 := bk_ BK266 hb; replace HB := jA.mk (jG (bb1_ HB GE266) hb)))
  go_ret
  exact ⟨ew_, (bb1_ HB GE266)⟩
 rw [if_pos c3] at H
 have c3b0 := beq_iff_eq.mpr c3
 have c3b1 := bne_eq_false_iff_eq.mpr c3
 clear c3
 by_cases c4 : (l0_2.length : Int) > 0
 rotate_left
 ·
  rw [if_neg c4] at H
  have c4b0 := decide_eq_false c4
  have c4b1 : decide (0 < l0_2.length) = false := decide_eq_false (by omega)
  clear c4
  obtain rfl := Option.some.inj H
  go_enter Tryz.func74, Tryz.ntmps74
  go_wp2_with (first | ((with_reducible refine jl (N := 1) rfl ?_); (try (refine jg (by rfl) ?_; dsimp only)); refine bx_ 1 #[.bool a0_0, .slice A0_1 l0_1.length c0_1, .slice A0_2 l0_2.length c0_2] 33 ?_; intro gb266 hg w39 hbox hb; have BK266 := jA.mk (hbox); have GW266 := jA.mk ((by rw [hg]; exact (jE (bb_ HB)) : w.heap.size ≤ gb266)); have GE266 := GW266; replace HB := bs_ HB hb; clear hb hbox hg; obtain ⟨hcz40_0, hcz40_1, hcz40_2, hfz40_0, hfz40_1, hfz40_2⟩ := bf3_ BK266) | ((with_reducible refine jL (f := 103) rfl ?_); refine gl_ (some 10) Tryz.func103 #[.slice A0_1 l0_1.length c0_1, .slice A0_2 l0_2.length c0_2] ?_; (with_reducible refine (je.calls k _ _ l0_1 _ _ l0_2 t267 t268 _ ?side1 ?side2 ?side3 ?side4 A2.out).mono ?_); (case side1 => exact cb_ HR0_1 HB); (case side2 => exact HC0_1.out); (case side3 => exact cb_ HR0_2 HB); (case side4 => exact HC0_2.out); rintro e w41 ⟨v269, rfl, ho0, hb⟩; refine ⟨_, rfl, ?_⟩; have HO270 := jA.mk (Kd.jk ho0 (jE (bb1_ HB GE266))); replace BK266 := bk_ BK266 hb; replace HB := jA.mk (jG (bb1_ HB GE266) hb); obtain ⟨hcz42_0, hcz42_1, hcz42_2, hfz42_0, hfz42_1, hfz42_2⟩ := bf3_ BK266))
  go_ret
  exact ⟨ew_, (bb1_ HB GE266)⟩
 rw [if_pos c4] at H
 have c4b0 := decide_eq_true c4
 have c4b1 : decide (0 < l0_2.length) = true := decide_eq_true (by omega)
 clear c4
 obtain ⟨y271, hy271⟩ : ∃ y_ : List Int, y_ = (([1] : List Int)) := ⟨_, rfl⟩
 replace H : ((ql.f k t267 y271).bind fun t274 => (if t274 = 0 then (if a0_0 = true then ((zJ.f a0_0 l0_1 l0_2).bind fun t275 => (some (!t275))) else (some true)) else (some false))) = some r := by first | (rw [hy271]; with_reducible exact H) | (have H2_ := (Option.bind_some _ _).symm.trans H; rw [hy271]; with_reducible exact H2_) | (with_reducible exact hs_ H) | with_reducible exact H | (rw [hy271]; exact H) | exact H
 have Ny271 := jA.mk hy271
 clear hy271
 obtain ⟨t274, A5, H⟩ := oc_ H
 try dsimp only at H
 by_cases c6 : t274 = 0
 rotate_left
 ·
  rw [if_neg c6] at H
  have c6b0 := beq_eq_false_iff_ne.mpr c6
  have c6b1 := bne_iff_ne.mpr c6
  obtain rfl := Option.some.inj H
  go_enter Tryz.func74, Tryz.ntmps74
  go_wp2_with (first | ((with_reducible refine jl (N := 1) rfl ?_); (try (refine jg (by rfl) ?_; dsimp only)); refine bx_ 1 #[.bool a0_0, .slice A0_1 l0_1.length c0_1, .slice A0_2 l0_2.length c0_2] 33 ?_; intro gb266 hg w30 hbox hb; have BK266 := jA.mk (hbox); have GW266 := jA.mk ((by rw [hg]; exact (jE (bb_ HB)) : w.heap.size ≤ gb266)); have GE266 := GW266; replace HB := bs_ HB hb; clear hb hbox hg; obtain ⟨hcz31_0, hcz31_1, hcz31_2, hfz31_0, hfz31_1, hfz31_2⟩ := bf3_ BK266) | ((with_reducible refine jL (f := 103) rfl ?_); refine gl_ (some 10) Tryz.func103 #[.slice A0_1 l0_1.length c0_1, .slice A0_2 l0_2.length c0_2] ?_; (with_reducible refine (je.calls k _ _ l0_1 _ _ l0_2 t267 t268 _ ?side1 ?side2 ?side3 ?side4 A2.out).mono ?_); (case side1 => exact cb_ HR0_1 HB); (case side2 => exact HC0_1.out); (case side3 => exact cb_ HR0_2 HB); (case side4 => exact HC0_2.out); rintro e w32 ⟨v269, rfl, ho0, hb⟩; refine ⟨_, rfl, ?_⟩; have HO270 := jA.mk (Kd.jk ho0 (jE (bb1_ HB GE266))); replace BK266 := bk_ BK266 hb; replace HB := jA.mk (jG (bb1_ HB GE266) hb); obtain ⟨hcz33_0, hcz33_1, hcz33_2, hfz33_0, hfz33_1, hfz33_2⟩ := bf3_ BK266) | ((with_reducible refine jl (N := 23) rfl ?_); (try (refine jg (by rfl) ?_; dsimp only)); refine Kd.jHA (Kd.int .u64) _ 56 ?hg (N := 23) ?hd (xs := ([1] : List Int)) (inner := [.int .u64 1]) (ok := fun _ => True) (okp := fun _ => True) ?hr ?hp (fun _ hk => hk) trivial (Below.refl _ _) (Nat.le_refl _) (by simp) ?_; (case hd => rfl); (case hg => rfl); (case hr => exact gs_); (case hp => exact (Reps.one (show Kd.M (Kd.int .u64) _ _ _ 1 [.int .u64 1] from rfl) (Reps.none _ _))); intro v272 w34 ho35 hb hg_ hnew_; clear hg_ hnew_; (first | rw [← Ny271.out] at ho35 | (simp only [Int.reduceToNat] at ho35; rw [← Ny271.out] at ho35)); have HO273 := jA.mk (Kd.jk (Kd.qD ho35 (Kd.R_lt (rR_ HO270))) (jE (bb1_ HB GE266))); replace HO270 := re_ HO270 ho35 hb; replace BK266 := bk_ BK266 hb; replace HB := jA.mk (jG (bb1_ HB GE266) hb); clear hb ho35; obtain ⟨Ao36, co36, rfl⟩ := Kd.vE HO270.out; obtain ⟨Ao37, co37, rfl⟩ := Kd.vE HO273.out) | ((with_reducible refine jl (N := 24) rfl ?_); (try (refine jg (by rfl) ?_; dsimp only)); refine jg (by first | rfl | kernel_rfl) ?_; dsimp only; (with_reducible refine jL (f := 104) rfl ?_); refine gl_ (some 24) Tryz.func104 #[.slice Ao36 t267.length co36, .slice Ao37 y271.length co37] ?_; (with_reducible refine (ql.calls k _ _ t267 _ _ y271 t274 _ ?side1 ?side2 ?side3 ?side4 A5.out).mono ?_); (case side1 => exact cc_ (Kd.jW HO270.out).2.2); (case side2 => exact (Kd.jW HO270.out).2.1); (case side3 => exact cc_ (Kd.jW HO273.out).2.2); (case side4 => exact (Kd.jW HO273.out).2.1); rintro e w38 ⟨rfl, hb⟩; refine ⟨_, rfl, ?_⟩; replace HO270 := ro_ HO270 hb; replace HO273 := ro_ HO273 hb; replace BK266 := bk_ BK266 hb; replace HB := jA.mk (jG (bb1_ HB GE266) hb)))
  go_ret
  exact ⟨ew_, (bb1_ HB GE266)⟩
 rw [if_pos c6] at H
 have c6b0 := beq_iff_eq.mpr c6
 have c6b1 := bne_eq_false_iff_eq.mpr c6
 clear c6
 by_cases c7 : a0_0 = true
 ·
  subst c7
  replace H := ip_ H
  obtain ⟨t275, A8, H⟩ := oc_ H
  try dsimp only at H
  obtain rfl := Option.some.inj H
  go_enter Tryz.func74, Tryz.ntmps74
  go_wp2_with (first | ((with_reducible refine jl (N := 1) rfl ?_); (try (refine jg (by rfl) ?_; dsimp only)); refine bx_ 1 #[.bool true, .slice A0_1 l0_1.length c0_1, .slice A0_2 l0_2.length c0_2] 33 ?_; intro gb266 hg w9 hbox hb; have BK266 := jA.mk (hbox); have GW266 := jA.mk ((by rw [hg]; exact (jE (bb_ HB)) : w.heap.size ≤ gb266)); have GE266 := GW266; replace HB := bs_ HB hb; clear hb hbox hg; obtain ⟨hcz10_0, hcz10_1, hcz10_2, hfz10_0, hfz10_1, hfz10_2⟩ := bf3_ BK266) | ((with_reducible refine jL (f := 103) rfl ?_); refine gl_ (some 10) Tryz.func103 #[.slice A0_1 l0_1.length c0_1, .slice A0_2 l0_2.length c0_2] ?_; (with_reducible refine (je.calls k _ _ l0_1 _ _ l0_2 t267 t268 _ ?side1 ?side2 ?side3 ?side4 A2.out).mono ?_); (case side1 => exact cb_ HR0_1 HB); (case side2 => exact HC0_1.out); (case side3 => exact cb_ HR0_2 HB); (case side4 => exact HC0_2.out); rintro e w11 ⟨v269, rfl, ho0, hb⟩; refine ⟨_, rfl, ?_⟩; have HO270 := jA.mk (Kd.jk ho0 (jE (bb1_ HB GE266))); replace BK266 := bk_ BK266 hb; replace HB := jA.mk (jG (bb1_ HB GE266) hb); obtain ⟨hcz12_0, hcz12_1, hcz12_2, hfz12_0, hfz12_1, hfz12_2⟩ := bf3_ BK266) | ((with_reducible refine jl (N := 23) rfl ?_); (try (refine jg (by rfl) ?_; dsimp only)); refine Kd.jHA (Kd.int .u64) _ 56 ?hg (N := 23) ?hd (xs := ([1] : List Int)) (inner := [.int .u64 1]) (ok := fun _ => True) (okp := fun _ => True) ?hr ?hp (fun _ hk => hk) trivial (Below.refl _ _) (Nat.le_refl _) (by simp) ?_; (case hd => rfl); (case hg => rfl); (case hr => exact gs_); (case hp => exact (Reps.one (show Kd.M (Kd.int .u64) _ _ _ 1 [.int .u64 1] from rfl) (Reps.none _ _))); intro v272 w13 ho14 hb hg_ hnew_; clear hg_ hnew_; (first | rw [← Ny271.out] at ho14 | (simp only [Int.reduceToNat] at ho14; rw [← Ny271.out] at ho14)); have HO273 := jA.mk (Kd.jk (Kd.qD ho14 (Kd.R_lt (rR_ HO270))) (jE (bb1_ HB GE266))); replace HO270 := re_ HO270 ho14 hb; replace BK266 := bk_ BK266 hb; replace HB := jA.mk (jG (bb1_ HB GE266) hb); clear hb ho14; obtain ⟨Ao15, co15, rfl⟩ := Kd.vE HO270.out; obtain ⟨Ao16, co16, rfl⟩ := Kd.vE HO273.out) | ((with_reducible refine jl (N := 24) rfl ?_); (try (refine jg (by rfl) ?_; dsimp only)); refine jg (by first | rfl | kernel_rfl) ?_; dsimp only; (with_reducible refine jL (f := 104) rfl ?_); refine gl_ (some 24) Tryz.func104 #[.slice Ao15 t267.length co15, .slice Ao16 y271.length co16] ?_; (with_reducible refine (ql.calls k _ _ t267 _ _ y271 t274 _ ?side1 ?side2 ?side3 ?side4 A5.out).mono ?_); (case side1 => exact cc_ (Kd.jW HO270.out).2.2); (case side2 => exact (Kd.jW HO270.out).2.1); (case side3 => exact cc_ (Kd.jW HO273.out).2.2); (case side4 => exact (Kd.jW HO273.out).2.1); rintro e w17 ⟨rfl, hb⟩; refine ⟨_, rfl, ?_⟩; replace HO270 := ro_ HO270 hb; replace HO273 := ro_ HO273 hb; replace BK266 := bk_ BK266 hb; replace HB := jA.mk (jG (bb1_ HB GE266) hb); obtain ⟨hcz18_0, hcz18_1, hcz18_2, hfz18_0, hfz18_1, hfz18_2⟩ := bf3_ BK266) | (go_at_call 45; (with_reducible refine (zJ.calls true _ _ l0_1 _ _ l0_2 t275 _ ?side1 ?side2 ?side3 ?side4 A8.out).mono ?_); (case side1 => exact cb_ HR0_1 HB); (case side2 => exact HC0_1.out); (case side3 => exact cb_ HR0_2 HB); (case side4 => exact HC0_2.out); rintro e w19 ⟨rfl, hb⟩; replace HO270 := ro_ HO270 hb; replace HO273 := ro_ HO273 hb; replace BK266 := bk_ BK266 hb; replace HB := jA.mk (jG (bb1_ HB GE266) hb)))
  go_ret
  exact ⟨ew_, (bb1_ HB GE266)⟩
 replace c7 := Bool.eq_false_iff.mpr c7
 subst c7
 replace H := in_ H
 obtain rfl := Option.some.inj H
 go_enter Tryz.func74, Tryz.ntmps74
 go_wp2_with (first | ((with_reducible refine jl (N := 1) rfl ?_); (try (refine jg (by rfl) ?_; dsimp only)); refine bx_ 1 #[.bool false, .slice A0_1 l0_1.length c0_1, .slice A0_2 l0_2.length c0_2] 33 ?_; intro gb266 hg w20 hbox hb; have BK266 := jA.mk (hbox); have GW266 := jA.mk ((by rw [hg]; exact (jE (bb_ HB)) : w.heap.size ≤ gb266)); have GE266 := GW266; replace HB := bs_ HB hb; clear hb hbox hg; obtain ⟨hcz21_0, hcz21_1, hcz21_2, hfz21_0, hfz21_1, hfz21_2⟩ := bf3_ BK266) | ((with_reducible refine jL (f := 103) rfl ?_); refine gl_ (some 10) Tryz.func103 #[.slice A0_1 l0_1.length c0_1, .slice A0_2 l0_2.length c0_2] ?_; (with_reducible refine (je.calls k _ _ l0_1 _ _ l0_2 t267 t268 _ ?side1 ?side2 ?side3 ?side4 A2.out).mono ?_); (case side1 => exact cb_ HR0_1 HB); (case side2 => exact HC0_1.out); (case side3 => exact cb_ HR0_2 HB); (case side4 => exact HC0_2.out); rintro e w22 ⟨v269, rfl, ho0, hb⟩; refine ⟨_, rfl, ?_⟩; have HO270 := jA.mk (Kd.jk ho0 (jE (bb1_ HB GE266))); replace BK266 := bk_ BK266 hb; replace HB := jA.mk (jG (bb1_ HB GE266) hb); obtain ⟨hcz23_0, hcz23_1, hcz23_2, hfz23_0, hfz23_1, hfz23_2⟩ := bf3_ BK266) | ((with_reducible refine jl (N := 23) rfl ?_); (try (refine jg (by rfl) ?_; dsimp only)); refine Kd.jHA (Kd.int .u64) _ 56 ?hg (N := 23) ?hd (xs := ([1] : List Int)) (inner := [.int .u64 1]) (ok := fun _ => True) (okp := fun _ => True) ?hr ?hp (fun _ hk => hk) trivial (Below.refl _ _) (Nat.le_refl _) (by simp) ?_; (case hd => rfl); (case hg => rfl); (case hr => exact gs_); (case hp => exact (Reps.one (show Kd.M (Kd.int .u64) _ _ _ 1 [.int .u64 1] from rfl) (Reps.none _ _))); intro v272 w24 ho25 hb hg_ hnew_; clear hg_ hnew_; (first | rw [← Ny271.out] at ho25 | (simp only [Int.reduceToNat] at ho25; rw [← Ny271.out] at ho25)); have HO273 := jA.mk (Kd.jk (Kd.qD ho25 (Kd.R_lt (rR_ HO270))) (jE (bb1_ HB GE266))); replace HO270 := re_ HO270 ho25 hb; replace BK266 := bk_ BK266 hb; replace HB := jA.mk (jG (bb1_ HB GE266) hb); clear hb ho25; obtain ⟨Ao26, co26, rfl⟩ := Kd.vE HO270.out; obtain ⟨Ao27, co27, rfl⟩ := Kd.vE HO273.out) | ((with_reducible refine jl (N := 24) rfl ?_); (try (refine jg (by rfl) ?_; dsimp only)); refine jg (by first | rfl | kernel_rfl) ?_; dsimp only; (with_reducible refine jL (f := 104) rfl ?_); refine gl_ (some 24) Tryz.func104 #[.slice Ao26 t267.length co26, .slice Ao27 y271.length co27] ?_; (with_reducible refine (ql.calls k _ _ t267 _ _ y271 t274 _ ?side1 ?side2 ?side3 ?side4 A5.out).mono ?_); (case side1 => exact cc_ (Kd.jW HO270.out).2.2); (case side2 => exact (Kd.jW HO270.out).2.1); (case side3 => exact cc_ (Kd.jW HO273.out).2.2); (case side4 => exact (Kd.jW HO273.out).2.1); rintro e w28 ⟨rfl, hb⟩; refine ⟨_, rfl, ?_⟩; replace HO270 := ro_ HO270 hb; replace HO273 := ro_ HO273 hb; replace BK266 := bk_ BK266 hb; replace HB := jA.mk (jG (bb1_ HB GE266) hb); obtain ⟨hcz29_0, hcz29_1, hcz29_2, hfz29_0, hfz29_1, hfz29_2⟩ := bf3_ BK266))
 go_ret
 exact ⟨ew_, (bb1_ HB GE266)⟩
def bad (n : Int) : Bool := decide (n < 0) || decide (40 < n)
theorem jNg {n : Int} (h : bad n = false) : decide (n < 0) = false ∧ decide (40 < n) = false := by
 unfold bad at h
 exact Bool.or_eq_false_iff.1 h
set_option maxHeartbeats 1000000 in
theorem May1 (n : Int) (w : World) : Calls Tryz.prog 106 #[.int .i64 n] w fun e w' => e = .returned (.bool (bad n)) ∧ w = w' := by
 cases h : bad n with
 | false =>
  obtain ⟨h1, h2⟩ := jNg h
  clear h
  go_enter Tryz.func106, Tryz.ntmps106
  go_wp2
  go_ret
  exact ⟨rfl, rfl⟩
 | true =>
  cases h1 : decide (n < 0) with
  | true =>
   clear h
   go_enter Tryz.func106, Tryz.ntmps106
   go_wp2
   go_ret
   exact ⟨rfl, rfl⟩
  | false =>
   have h2 : decide (40 < n) = true := by unfold bad at h; rw [h1] at h; exact h
   clear h
   go_enter Tryz.func106, Tryz.ntmps106
   go_wp2
   go_ret
   exact ⟨rfl, rfl⟩
def idx (b0 b1 b2 b3 : Bool) : Int := if b0 then 0 else if b1 then 1 else if b2 then 2 else if b3 then 3 else -1
set_option maxHeartbeats 1000000 in
theorem jJj (g : Nat) (x0 x1 x2 x3 : Int) (w : World) (hb : w.heap[g]? = some (.cells #[.int .i64 x0, .int .i64 x1, .int .i64 x2, .int .i64 x3] 35 (0, 0))) :
  Calls Tryz.prog 130 #[.slice (some ⟨g, 0, none⟩) 4 4, .func (.func 106) #[] #[]] w fun e w' => e = .returned (.int .i64 (idx (bad x0) (bad x1) (bad x2) (bad x3))) ∧ w = w' := by
 have c0 : w.cell? ⟨g, 0, none⟩ = some (.int .i64 x0) := (jB hb 0).trans rfl
 have c1 : w.cell? ⟨g, 1, none⟩ = some (.int .i64 x1) := (jB hb 1).trans rfl
 have c2 : w.cell? ⟨g, 2, none⟩ = some (.int .i64 x2) := (jB hb 2).trans rfl
 have c3 : w.cell? ⟨g, 3, none⟩ = some (.int .i64 x3) := (jB hb 3).trans rfl
 clear hb
 cases h0 : bad x0 with
 | true =>
  go_enter Tryz.func130, Tryz.ntmps130
  go_wp2
  refine wp_loop_rounds 1 ?_
  rw [rounds_succ]
  go_wp2_with (go_at_call 106; refine (May1 _ _).mono ?_; rw [h0]; rintro e w' ⟨rfl, rfl⟩)
  go_ret
  exact ⟨rfl, rfl⟩
 | false =>
  cases h1 : bad x1 with
  | true =>
   go_enter Tryz.func130, Tryz.ntmps130
   go_wp2
   refine wp_loop_rounds 2 ?_
   rw [rounds_succ]
   go_wp2_with (go_at_call 106; refine (May1 _ _).mono ?_; rw [h0]; rintro e w' ⟨rfl, rfl⟩)
   rw [rounds_succ]
   go_wp2_with (go_at_call 106; refine (May1 _ _).mono ?_; rw [h1]; rintro e w' ⟨rfl, rfl⟩)
   go_ret
   exact ⟨rfl, rfl⟩
  | false =>
   cases h2 : bad x2 with
   | true =>
    go_enter Tryz.func130, Tryz.ntmps130
    go_wp2
    refine wp_loop_rounds 3 ?_
    rw [rounds_succ]
    go_wp2_with (go_at_call 106; refine (May1 _ _).mono ?_; rw [h0]; rintro e w' ⟨rfl, rfl⟩)
    rw [rounds_succ]
    go_wp2_with (go_at_call 106; refine (May1 _ _).mono ?_; rw [h1]; rintro e w' ⟨rfl, rfl⟩)
    rw [rounds_succ]
    go_wp2_with (go_at_call 106; refine (May1 _ _).mono ?_; rw [h2]; rintro e w' ⟨rfl, rfl⟩)
    go_ret
    exact ⟨rfl, rfl⟩
   | false =>
    cases h3 : bad x3 with
    | true =>
     go_enter Tryz.func130, Tryz.ntmps130
     go_wp2
     refine wp_loop_rounds 4 ?_
     rw [rounds_succ]
     go_wp2_with (go_at_call 106; refine (May1 _ _).mono ?_; rw [h0]; rintro e w' ⟨rfl, rfl⟩)
     rw [rounds_succ]
     go_wp2_with (go_at_call 106; refine (May1 _ _).mono ?_; rw [h1]; rintro e w' ⟨rfl, rfl⟩)
     rw [rounds_succ]
     go_wp2_with (go_at_call 106; refine (May1 _ _).mono ?_; rw [h2]; rintro e w' ⟨rfl, rfl⟩)
     rw [rounds_succ]
     go_wp2_with (go_at_call 106; refine (May1 _ _).mono ?_; rw [h3]; rintro e w' ⟨rfl, rfl⟩)
     go_ret
     exact ⟨rfl, rfl⟩
    | false =>
     go_enter Tryz.func130, Tryz.ntmps130
     go_wp2
     refine wp_loop_rounds 5 ?_
     rw [rounds_succ]
     go_wp2_with (go_at_call 106; refine (May1 _ _).mono ?_; rw [h0]; rintro e w' ⟨rfl, rfl⟩)
     rw [rounds_succ]
     go_wp2_with (go_at_call 106; refine (May1 _ _).mono ?_; rw [h1]; rintro e w' ⟨rfl, rfl⟩)
     rw [rounds_succ]
     go_wp2_with (go_at_call 106; refine (May1 _ _).mono ?_; rw [h2]; rintro e w' ⟨rfl, rfl⟩)
     rw [rounds_succ]
     go_wp2_with (go_at_call 106; refine (May1 _ _).mono ?_; rw [h3]; rintro e w' ⟨rfl, rfl⟩)
     rw [rounds_succ]
     go_wp2
     go_ret
     exact ⟨rfl, rfl⟩
def mays (x0 x1 x2 x3 : Int) : Bool := !(bad x0 || (bad x1 || (bad x2 || bad x3)))
theorem jOU (x0 x1 x2 x3 : Int) : decide (0 ≤ idx (bad x0) (bad x1) (bad x2) (bad x3)) = !mays x0 x1 x2 x3 := by
 unfold mays idx
 cases bad x0 <;> cases bad x1 <;> cases bad x2 <;> cases bad x3 <;> rfl
set_option maxHeartbeats 1000000 in
theorem jFp (g : Nat) (x0 x1 x2 x3 : Int) (w : World) (hb : w.heap[g]? = some (.cells #[.int .i64 x0, .int .i64 x1, .int .i64 x2, .int .i64 x3] 35 (0, 0))) :
  Calls Tryz.prog 105 #[.slice (some ⟨g, 0, none⟩) 4 4, .func (.func 106) #[] #[]] w fun e w' => e = .returned (.bool (!mays x0 x1 x2 x3)) ∧ w = w' := by
 have HB := jA.mk hb
 clear hb
 have hi := jOU x0 x1 x2 x3
 go_enter Tryz.func105, Tryz.ntmps105
 go_wp2_with (go_at_call 130; refine (jJj g x0 x1 x2 x3 _ HB.out).mono ?_; rintro e w' ⟨rfl, rfl⟩)
 go_ret
 exact ⟨rfl, rfl⟩
-- NOT PRINTED: function 106 (mono_May_1)
def qm.f (x0 x1 x2 x3 : Int) : Option Bool := some (mays x0 x1 x2 x3)
set_option maxHeartbeats 1000000 in
theorem qm.calls (x0 x1 x2 x3 : Int) (r : Bool) (w : World) (h : qm.f x0 x1 x2 x3 = some r) :
  Calls Tryz.prog 75 #[.agg #[.int .i64 x0, .int .i64 x1, .int .i64 x2, .int .i64 x3]] w fun e w' => e = .returned (.bool r) ∧ Below w.heap.size w w' := by
 obtain rfl := Option.some.inj h
 clear h
 have HB := jA.mk (vD w (.cells #[.int .i64 x0, .int .i64 x1, .int .i64 x2, .int .i64 x3] 35))
 have hnot : ∀ (x : Bool) (w : World), (Op.unary .not (.bool x)).run Tryz.prog w = .ok (.bool (!x)) w := fun _ _ => rfl
 go_enter Tryz.func75, Tryz.ntmps75
 go_wp2_with (go_at_call 105; refine (jFp _ x0 x1 x2 x3 _ HB.out).mono ?_; rintro e w' ⟨rfl, rfl⟩)
 go_ret
 exact ⟨by simp, jQ (Below.refl _ _) _⟩
def zx.f (k : Nat) (a0_0 : Bool) (l0_1 : List Int) (l0_2 : List Int) (a0_3 : Int) (a0_4 : Int) (a0_5 : Int) (a0_6 : Int) : Option (Bool) := (vR.f k a0_0 l0_1 l0_2).bind fun t277 => (if t277 = true then ((qm.f a0_3 a0_4 a0_5 a0_6).bind fun t278 => (some t278)) else (some false))
theorem zx.calls (k : Nat) (a0_0 : Bool) (A0_1 : Option Addr) (c0_1 : Nat) (l0_1 : List Int) (A0_2 : Option Addr) (c0_2 : Nat) (l0_2 : List Int) (a0_3 : Int) (a0_4 : Int) (a0_5 : Int) (a0_6 : Int) (r : Bool) (w : World) (hr0_1 : Kd.C (Kd.int .u64) w A0_1 l0_1.length l0_1) (hc0_1 : l0_1.length ≤ c0_1) (hr0_2 : Kd.C (Kd.int .u64) w A0_2 l0_2.length l0_2) (hc0_2 : l0_2.length ≤ c0_2) (h : zx.f k a0_0 l0_1 l0_2 a0_3 a0_4 a0_5 a0_6 = some r) :
  Calls Tryz.prog 44 #[.agg #[.bool a0_0, .slice A0_1 l0_1.length c0_1, .slice A0_2 l0_2.length c0_2, .int .i64 a0_3, .int .i64 a0_4, .int .i64 a0_5, .int .i64 a0_6]] w fun e w' => e = .returned (.bool r) ∧ Below w.heap.size w w' := by
 have hu37 := Tryz.underlying37
 have hu33 := Tryz.underlying33
 have hu35 := Tryz.underlying35
 have HR0_1 := jA.mk hr0_1
 have HC0_1 := jA.mk hc0_1
 clear hr0_1 hc0_1
 have HR0_2 := jA.mk hr0_2
 have HC0_2 := jA.mk hc0_2
 clear hr0_2 hc0_2
 have HB := jA.mk (Below.refl w.heap.size w)
 have H : ((vR.f k a0_0 l0_1 l0_2).bind fun t277 => (if t277 = true then ((qm.f a0_3 a0_4 a0_5 a0_6).bind fun t278 => (some t278)) else (some false))) = some r := h
 clear h
 obtain ⟨t277, A2, H⟩ := oc_ H
 try dsimp only at H
 by_cases c3 : t277 = true
 rotate_left
 ·
  replace c3 := Bool.eq_false_iff.mpr c3
  subst c3
  replace H := in_ H
  obtain rfl := Option.some.inj H
  go_enter Tryz.func44, Tryz.ntmps44
  go_wp2_with (first | ((with_reducible refine jl (N := 1) rfl ?_); refine bx_ 1 #[.bool a0_0, .slice A0_1 l0_1.length c0_1, .slice A0_2 l0_2.length c0_2, .int .i64 a0_3, .int .i64 a0_4, .int .i64 a0_5, .int .i64 a0_6] 37 ?_; intro gb276 hg w10 hbox hb; have BK276 := jA.mk (hbox); have GW276 := jA.mk ((by rw [hg]; exact (jE (bb_ HB)) : w.heap.size ≤ gb276)); have GE276 := GW276; replace HB := bs_ HB hb; clear hb hbox hg; obtain ⟨hcz11_0, hcz11_1, hcz11_2, hcz11_3, hcz11_4, hcz11_5, hcz11_6, hfz11_0, hfz11_1, hfz11_2, hfz11_3, hfz11_4, hfz11_5, hfz11_6⟩ := bf7_ BK276) | ((with_reducible refine jL (f := 74) rfl ?_); refine gl_ (some 5) Tryz.func74 #[.agg #[.bool a0_0, .slice A0_1 l0_1.length c0_1, .slice A0_2 l0_2.length c0_2]] ?_; (with_reducible refine (vR.calls k a0_0 _ _ l0_1 _ _ l0_2 false _ ?side1 ?side2 ?side3 ?side4 A2.out).mono ?_); (case side1 => exact cb_ HR0_1 HB); (case side2 => exact HC0_1.out); (case side3 => exact cb_ HR0_2 HB); (case side4 => exact HC0_2.out); rintro e w12 ⟨rfl, hb⟩; refine ⟨_, rfl, ?_⟩; replace BK276 := bk_ BK276 hb; replace HB := jA.mk (jG (bb1_ HB GE276) hb)))
  go_ret
  exact ⟨ew_, (bb1_ HB GE276)⟩
 subst c3
 replace H := ip_ H
 replace H := ob_ H
 obtain ⟨t278, A40, H⟩ := H
 replace H : (some t278) = some r := H
 have A4 := jA.mk A40
 clear A40
 obtain rfl := Option.some.inj H
 go_enter Tryz.func44, Tryz.ntmps44
 go_wp2_with (first | ((with_reducible refine jl (N := 1) rfl ?_); refine bx_ 1 #[.bool a0_0, .slice A0_1 l0_1.length c0_1, .slice A0_2 l0_2.length c0_2, .int .i64 a0_3, .int .i64 a0_4, .int .i64 a0_5, .int .i64 a0_6] 37 ?_; intro gb276 hg w5 hbox hb; have BK276 := jA.mk (hbox); have GW276 := jA.mk ((by rw [hg]; exact (jE (bb_ HB)) : w.heap.size ≤ gb276)); have GE276 := GW276; replace HB := bs_ HB hb; clear hb hbox hg; obtain ⟨hcz6_0, hcz6_1, hcz6_2, hcz6_3, hcz6_4, hcz6_5, hcz6_6, hfz6_0, hfz6_1, hfz6_2, hfz6_3, hfz6_4, hfz6_5, hfz6_6⟩ := bf7_ BK276) | ((with_reducible refine jL (f := 74) rfl ?_); refine gl_ (some 5) Tryz.func74 #[.agg #[.bool a0_0, .slice A0_1 l0_1.length c0_1, .slice A0_2 l0_2.length c0_2]] ?_; (with_reducible refine (vR.calls k a0_0 _ _ l0_1 _ _ l0_2 true _ ?side1 ?side2 ?side3 ?side4 A2.out).mono ?_); (case side1 => exact cb_ HR0_1 HB); (case side2 => exact HC0_1.out); (case side3 => exact cb_ HR0_2 HB); (case side4 => exact HC0_2.out); rintro e w7 ⟨rfl, hb⟩; refine ⟨_, rfl, ?_⟩; replace BK276 := bk_ BK276 hb; replace HB := jA.mk (jG (bb1_ HB GE276) hb); obtain ⟨hcz8_0, hcz8_1, hcz8_2, hcz8_3, hcz8_4, hcz8_5, hcz8_6, hfz8_0, hfz8_1, hfz8_2, hfz8_3, hfz8_4, hfz8_5, hfz8_6⟩ := bf7_ BK276) | (go_at_call 75; (with_reducible refine (qm.calls a0_3 a0_4 a0_5 a0_6 t278 _ A4.out).mono ?_); rintro e w9 ⟨rfl, hb⟩; replace BK276 := bk_ BK276 hb; replace HB := jA.mk (jG (bb1_ HB GE276) hb)))
 go_ret
 exact ⟨ew_, (bb1_ HB GE276)⟩
def cmp_isNaN_int.f (a0 : Int) : Option (Bool) := some (a0 != a0)
theorem cmp_isNaN_int.calls (a0 : Int) (r : Bool) (w : World) (h : cmp_isNaN_int.f a0 = some r) :
  Calls Tryz.prog 107 #[.int .i64 a0] w fun e w' => e = .returned (.bool r) ∧ jq w w' := by
 have H : (some (a0 != a0)) = some r := h
 clear h
 obtain rfl := Option.some.inj H
 go_enter Tryz.func107, Tryz.ntmps107
 go_wp2
 go_ret
 exact ⟨by first | rfl | (simp; done) | (simp [*]; done), by repeat (first | exact jq.refl _ | apply jq.step)⟩
def cmp_Compare_int.f (a0 : Int) (a1 : Int) : Option (Int) := (cmp_isNaN_int.f a0).bind fun t279 => ((cmp_isNaN_int.f a1).bind fun t280 => (if t279 = true then (if t280 = true then (some 0) else (some (-1))) else (if t280 = true then (some 1) else (if a0 < a1 then (some (-1)) else (if a0 > a1 then (some 1) else (some 0))))))
theorem cmp_Compare_int.calls (a0 : Int) (a1 : Int) (r : Int) (w : World) (h : cmp_Compare_int.f a0 a1 = some r) :
  Calls Tryz.prog 81 #[.int .i64 a0, .int .i64 a1] w fun e w' => e = .returned (.int .i64 r) ∧ jq w w' := by
 have H : ((cmp_isNaN_int.f a0).bind fun t279 => ((cmp_isNaN_int.f a1).bind fun t280 => (if t279 = true then (if t280 = true then (some 0) else (some (-1))) else (if t280 = true then (some 1) else (if a0 < a1 then (some (-1)) else (if a0 > a1 then (some 1) else (some 0))))))) = some r := h
 clear h
 obtain ⟨t279, A3, H⟩ := oc_ H
 try dsimp only at H
 obtain ⟨t280, A4, H⟩ := oc_ H
 try dsimp only at H
 by_cases c5 : t279 = true
 ·
  subst c5
  replace H := ip_ H
  by_cases c6 : t280 = true
  ·
   subst c6
   replace H := ip_ H
   obtain rfl := Option.some.inj H
   go_enter Tryz.func81, Tryz.ntmps81
   go_wp2_with (first | ((with_reducible refine jL (f := 107) rfl ?_); refine gl_ (some 8) Tryz.func107 #[.int .i64 a0] ?_; (with_reducible refine (cmp_isNaN_int.calls a0 true _ A3.out).mono ?_); rintro e w' ⟨rfl, ⟨nd, rfl⟩⟩; refine ⟨_, rfl, ?_⟩) | ((with_reducible refine jL (f := 107) rfl ?_); refine gl_ (some 10) Tryz.func107 #[.int .i64 a1] ?_; (with_reducible refine (cmp_isNaN_int.calls a1 true _ A4.out).mono ?_); rintro e w' ⟨rfl, ⟨nd, rfl⟩⟩; refine ⟨_, rfl, ?_⟩))
   go_ret
   exact ⟨by first | rfl | (simp; done) | (simp [*]; done), by repeat (first | exact jq.refl _ | apply jq.step)⟩
  replace c6 := Bool.eq_false_iff.mpr c6
  subst c6
  replace H := in_ H
  obtain rfl := Option.some.inj H
  go_enter Tryz.func81, Tryz.ntmps81
  go_wp2_with (first | ((with_reducible refine jL (f := 107) rfl ?_); refine gl_ (some 8) Tryz.func107 #[.int .i64 a0] ?_; (with_reducible refine (cmp_isNaN_int.calls a0 true _ A3.out).mono ?_); rintro e w' ⟨rfl, ⟨nd, rfl⟩⟩; refine ⟨_, rfl, ?_⟩) | ((with_reducible refine jL (f := 107) rfl ?_); refine gl_ (some 10) Tryz.func107 #[.int .i64 a1] ?_; (with_reducible refine (cmp_isNaN_int.calls a1 false _ A4.out).mono ?_); rintro e w' ⟨rfl, ⟨nd, rfl⟩⟩; refine ⟨_, rfl, ?_⟩))
  go_ret
  exact ⟨by first | rfl | (simp; done) | (simp [*]; done), by repeat (first | exact jq.refl _ | apply jq.step)⟩
 replace c5 := Bool.eq_false_iff.mpr c5
 subst c5
 replace H := in_ H
 by_cases c7 : t280 = true
 ·
  subst c7
  replace H := ip_ H
  obtain rfl := Option.some.inj H
  go_enter Tryz.func81, Tryz.ntmps81
  go_wp2_with (first | ((with_reducible refine jL (f := 107) rfl ?_); refine gl_ (some 8) Tryz.func107 #[.int .i64 a0] ?_; (with_reducible refine (cmp_isNaN_int.calls a0 false _ A3.out).mono ?_); rintro e w' ⟨rfl, ⟨nd, rfl⟩⟩; refine ⟨_, rfl, ?_⟩) | ((with_reducible refine jL (f := 107) rfl ?_); refine gl_ (some 10) Tryz.func107 #[.int .i64 a1] ?_; (with_reducible refine (cmp_isNaN_int.calls a1 true _ A4.out).mono ?_); rintro e w' ⟨rfl, ⟨nd, rfl⟩⟩; refine ⟨_, rfl, ?_⟩))
  go_ret
  exact ⟨by first | rfl | (simp; done) | (simp [*]; done), by repeat (first | exact jq.refl _ | apply jq.step)⟩
 replace c7 := Bool.eq_false_iff.mpr c7
 subst c7
 replace H := in_ H
 by_cases c8 : a0 < a1
 ·
  rw [if_pos c8] at H
  have c8b0 := decide_eq_true c8
  clear c8
  obtain rfl := Option.some.inj H
  go_enter Tryz.func81, Tryz.ntmps81
  go_wp2_with (first | ((with_reducible refine jL (f := 107) rfl ?_); refine gl_ (some 8) Tryz.func107 #[.int .i64 a0] ?_; (with_reducible refine (cmp_isNaN_int.calls a0 false _ A3.out).mono ?_); rintro e w' ⟨rfl, ⟨nd, rfl⟩⟩; refine ⟨_, rfl, ?_⟩) | ((with_reducible refine jL (f := 107) rfl ?_); refine gl_ (some 10) Tryz.func107 #[.int .i64 a1] ?_; (with_reducible refine (cmp_isNaN_int.calls a1 false _ A4.out).mono ?_); rintro e w' ⟨rfl, ⟨nd, rfl⟩⟩; refine ⟨_, rfl, ?_⟩))
  go_ret
  exact ⟨by first | rfl | (simp; done) | (simp [*]; done), by repeat (first | exact jq.refl _ | apply jq.step)⟩
 rw [if_neg c8] at H
 have c8b0 := decide_eq_false c8
 clear c8
 by_cases c9 : a0 > a1
 ·
  rw [if_pos c9] at H
  have c9b0 := decide_eq_true c9
  clear c9
  obtain rfl := Option.some.inj H
  go_enter Tryz.func81, Tryz.ntmps81
  go_wp2_with (first | ((with_reducible refine jL (f := 107) rfl ?_); refine gl_ (some 8) Tryz.func107 #[.int .i64 a0] ?_; (with_reducible refine (cmp_isNaN_int.calls a0 false _ A3.out).mono ?_); rintro e w' ⟨rfl, ⟨nd, rfl⟩⟩; refine ⟨_, rfl, ?_⟩) | ((with_reducible refine jL (f := 107) rfl ?_); refine gl_ (some 10) Tryz.func107 #[.int .i64 a1] ?_; (with_reducible refine (cmp_isNaN_int.calls a1 false _ A4.out).mono ?_); rintro e w' ⟨rfl, ⟨nd, rfl⟩⟩; refine ⟨_, rfl, ?_⟩))
  go_ret
  exact ⟨by first | rfl | (simp; done) | (simp [*]; done), by repeat (first | exact jq.refl _ | apply jq.step)⟩
 rw [if_neg c9] at H
 have c9b0 := decide_eq_false c9
 clear c9
 obtain rfl := Option.some.inj H
 go_enter Tryz.func81, Tryz.ntmps81
 go_wp2_with (first | ((with_reducible refine jL (f := 107) rfl ?_); refine gl_ (some 8) Tryz.func107 #[.int .i64 a0] ?_; (with_reducible refine (cmp_isNaN_int.calls a0 false _ A3.out).mono ?_); rintro e w' ⟨rfl, ⟨nd, rfl⟩⟩; refine ⟨_, rfl, ?_⟩) | ((with_reducible refine jL (f := 107) rfl ?_); refine gl_ (some 10) Tryz.func107 #[.int .i64 a1] ?_; (with_reducible refine (cmp_isNaN_int.calls a1 false _ A4.out).mono ?_); rintro e w' ⟨rfl, ⟨nd, rfl⟩⟩; refine ⟨_, rfl, ?_⟩))
 go_ret
 exact ⟨by first | rfl | (simp; done) | (simp [*]; done), by repeat (first | exact jq.refl _ | apply jq.step)⟩
def jY.l0 : Nat → List Int → List Int → List Int → Int → Int → Option (Int)
 | 0, _, _, _, _, _ => none
 | k + 1, x0, x1, x9, x10, x11 => if x11 < x10 then (if 0 ≤ x11 then (if x11 < (x9.length : Int) then (if x11 ≥ (x1.length : Int) then (some 1) else (if x11 < (x1.length : Int) then ((cmp_Compare_int.f (rd x9 x11) (rd x1 x11)).bind fun t283 => (if t283 = 0 then (jY.l0 k x0 x1 x9 x10 (wrap64 (x11 + 1))) else (some t283))) else (none))) else (none)) else (none)) else (if (x0.length : Int) < (x1.length : Int) then (some (-1)) else (some 0))
def jY.f (k : Nat) (l0 : List Int) (l1 : List Int) : Option (Int) := jY.l0 k l0 l1 l0 (l0.length : Int) 0
theorem jY.calls (k : Nat) (A0 : Option Addr) (c0 : Nat) (l0 : List Int) (A1 : Option Addr) (c1 : Nat) (l1 : List Int) (r : Int) (w : World) (hr0 : Kd.C (Kd.int .i64) w A0 l0.length l0) (hc0 : l0.length ≤ c0) (hr1 : Kd.C (Kd.int .i64) w A1 l1.length l1) (hc1 : l1.length ≤ c1) (h : jY.f k l0 l1 = some r) :
  Calls Tryz.prog 77 #[.slice A0 l0.length c0, .slice A1 l1.length c1] w fun e w' => e = .returned (.int .i64 r) ∧ jq w w' := by
 have HR0 := jA.mk hr0
 have HC0 := jA.mk hc0
 clear hr0 hc0
 have HR1 := jA.mk hr1
 have HC1 := jA.mk hc1
 clear hr1 hc1
 have H : (jY.l0 k l0 l1 l0 (l0.length : Int) 0) = some r := h
 clear h
 have H' := jA.mk H
 clear H
 go_enter Tryz.func77, Tryz.ntmps77
 go_wp2
 go_loopg [11] k (fun kq v11 w' => ∃ (x11_1 : Int), v11 = .int .i64 x11_1 ∧ jA (jY.l0 kq l0 l1 l0 (l0.length : Int) x11_1 = some r) ∧ jA (kq ≤ k) ∧ jq w w')
 case atStart => exact ⟨(0), sd_, H', ⟨Nat.le_refl _⟩, by repeat (first | exact jq.refl _ | apply jq.step)⟩
 case round =>
  clear H'
  try clear c1
  try clear p2
  obtain ⟨x11_1, rfl, HA, HK1, ⟨m1, rfl⟩⟩ := hrel
  cases gk with
  | zero => exact absurd HA.out (by simp [jY.l0])
  | succ k1 =>
   have H := HA.out
   clear HA
   simp only [jY.l0] at H
   by_cases c3 : x11_1 < (l0.length : Int)
   rotate_left
   ·
    rw [if_neg c3] at H
    have c3b0 := decide_eq_false c3
    clear c3
    by_cases c10 : (l0.length : Int) < (l1.length : Int)
    ·
     rw [if_pos c10] at H
     have c10b0 := decide_eq_true c10
     have c10b1 : decide (l0.length < l1.length) = true := decide_eq_true (Int.ofNat_lt.mp c10)
     clear c10
     obtain rfl := Option.some.inj H
     go_wp2
     go_ret
     exact ⟨by first | rfl | (simp; done) | (simp [*]; done), by repeat (first | exact jq.refl _ | apply jq.step)⟩
    rw [if_neg c10] at H
    have c10b0 := decide_eq_false c10
    have c10b1 : decide (l0.length < l1.length) = false := decide_eq_false (fun h => c10 (Int.ofNat_lt.mpr h))
    clear c10
    obtain rfl := Option.some.inj H
    go_wp2
    go_ret
    exact ⟨by first | rfl | (simp; done) | (simp [*]; done), by repeat (first | exact jq.refl _ | apply jq.step)⟩
   rw [if_pos c3] at H
   have c3b0 := decide_eq_true c3
   clear c3
   by_cases c4 : 0 ≤ x11_1
   rotate_left
   ·
    rw [if_neg c4] at H
    exact absurd H (by simp)
   rw [if_pos c4] at H
   have c4b0 := decide_eq_true c4
   clear c4
   by_cases c5 : x11_1 < (l0.length : Int)
   rotate_left
   ·
    rw [if_neg c5] at H
    exact absurd H (by simp)
   rw [if_pos c5] at H
   have c5b0 := decide_eq_true c5
   clear c5
   by_cases c6 : x11_1 ≥ (l1.length : Int)
   ·
    rw [if_pos c6] at H
    have c6b0 := decide_eq_true c6
    clear c6
    obtain rfl := Option.some.inj H
    have p281 : 0 ≤ (x11_1 : Int) := of_decide_eq_true am_
    have q281 : x11_1 < (l0.length : Int) := of_decide_eq_true am_
    obtain ⟨ad281, e281, hx281_0⟩ := Kd.vS HR0.out x11_1 p281 q281
    cases e281
    replace p281 := eq_true p281
    replace q281 := eq_true q281
    go_wp2
    go_ret
    exact ⟨by first | rfl | (simp; done) | (simp [*]; done), by repeat (first | exact jq.refl _ | apply jq.step)⟩
   rw [if_neg c6] at H
   have c6b0 := decide_eq_false c6
   clear c6
   by_cases c7 : x11_1 < (l1.length : Int)
   rotate_left
   ·
    rw [if_neg c7] at H
    exact absurd H (by simp)
   rw [if_pos c7] at H
   have c7b0 := decide_eq_true c7
   clear c7
   obtain ⟨t283, A8, H⟩ := oc_ H
   try dsimp only at H
   by_cases c9 : t283 = 0
   rotate_left
   ·
    rw [if_neg c9] at H
    have c9b0 := beq_eq_false_iff_ne.mpr c9
    have c9b1 := bne_iff_ne.mpr c9
    obtain rfl := Option.some.inj H
    have p281 : 0 ≤ (x11_1 : Int) := of_decide_eq_true am_
    have q281 : x11_1 < (l0.length : Int) := of_decide_eq_true am_
    obtain ⟨ad281, e281, hx281_0⟩ := Kd.vS HR0.out x11_1 p281 q281
    cases e281
    replace p281 := eq_true p281
    replace q281 := eq_true q281
    have p282 : 0 ≤ (x11_1 : Int) := of_decide_eq_true am_
    have q282 : x11_1 < (l1.length : Int) := of_decide_eq_true am_
    obtain ⟨ad282, e282, hx282_0⟩ := Kd.vS HR1.out x11_1 p282 q282
    cases e282
    replace p282 := eq_true p282
    replace q282 := eq_true q282
    go_wp2_with (first | ((with_reducible refine jL (f := 81) rfl ?_); refine gl_ (some 26) Tryz.func81 #[.int .i64 (rd l0 x11_1), .int .i64 (rd l1 x11_1)] ?_; (with_reducible refine (cmp_Compare_int.calls (rd l0 x11_1) (rd l1 x11_1) t283 _ A8.out).mono ?_); rintro e w' ⟨rfl, ⟨nd, rfl⟩⟩; refine ⟨_, rfl, ?_⟩))
    go_ret
    exact ⟨by first | rfl | (simp; done) | (simp [*]; done), by repeat (first | exact jq.refl _ | apply jq.step)⟩
   rw [if_pos c9] at H
   have c9b0 := beq_iff_eq.mpr c9
   have c9b1 := bne_eq_false_iff_eq.mpr c9
   clear c9
   have H' := jA.mk H
   clear H
   have p281 : 0 ≤ (x11_1 : Int) := of_decide_eq_true am_
   have q281 : x11_1 < (l0.length : Int) := of_decide_eq_true am_
   obtain ⟨ad281, e281, hx281_0⟩ := Kd.vS HR0.out x11_1 p281 q281
   cases e281
   replace p281 := eq_true p281
   replace q281 := eq_true q281
   have p282 : 0 ≤ (x11_1 : Int) := of_decide_eq_true am_
   have q282 : x11_1 < (l1.length : Int) := of_decide_eq_true am_
   obtain ⟨ad282, e282, hx282_0⟩ := Kd.vS HR1.out x11_1 p282 q282
   cases e282
   replace p282 := eq_true p282
   replace q282 := eq_true q282
   go_wp2_with (first | ((with_reducible refine jL (f := 81) rfl ?_); refine gl_ (some 26) Tryz.func81 #[.int .i64 (rd l0 x11_1), .int .i64 (rd l1 x11_1)] ?_; (with_reducible refine (cmp_Compare_int.calls (rd l0 x11_1) (rd l1 x11_1) t283 _ A8.out).mono ?_); rintro e w' ⟨rfl, ⟨nd, rfl⟩⟩; refine ⟨_, rfl, ?_⟩))
   go_roundg k1
   case measure => have := HK1.out; omega
   case rel => exact ⟨(wrap64 (x11_1 + 1)), sd_, H', ⟨by have := HK1.out; omega⟩, by repeat (first | exact jq.refl _ | apply jq.step)⟩
-- NOT PRINTED: function 76 (mono_Cmp_1)
def zA.l0 : Nat → Int → List Int → Int → Int → Option (Int)
 | 0, _, _, _, _ => none
 | k + 1, x3, x6, x7, x8 => if x8 < x7 then (if 0 ≤ x8 then (if x8 < (x6.length : Int) then (if (rd x6 x8) = x3 then (zA.l0 k x3 x6 x7 (wrap64 (x8 + 1))) else (some (rd x6 x8))) else (none)) else (none)) else (some x3)
def zA.f (k : Nat) (l0 : List Int) : Option (Int) := zA.l0 k 0 l0 (l0.length : Int) 0
theorem zA.calls (k : Nat) (A0 : Option Addr) (c0 : Nat) (l0 : List Int) (r : Int) (w : World) (hr0 : Kd.C (Kd.int .i64) w A0 l0.length l0) (hc0 : l0.length ≤ c0) (h : zA.f k l0 = some r) :
  Calls Tryz.prog 80 #[.slice A0 l0.length c0] w fun e w' => e = .returned (.int .i64 r) ∧ jq w w' := by
 have HR0 := jA.mk hr0
 have HC0 := jA.mk hc0
 clear hr0 hc0
 have H : (zA.l0 k 0 l0 (l0.length : Int) 0) = some r := h
 clear h
 have H' := jA.mk H
 clear H
 go_enter Tryz.func80, Tryz.ntmps80
 go_wp2
 go_loopg [8] k (fun kq v8 w' => ∃ (x8_1 : Int), v8 = .int .i64 x8_1 ∧ jA (zA.l0 kq 0 l0 (l0.length : Int) x8_1 = some r) ∧ jA (kq ≤ k) ∧ jq w w')
 case atStart => exact ⟨(0), sd_, H', ⟨Nat.le_refl _⟩, by repeat (first | exact jq.refl _ | apply jq.step)⟩
 case round =>
  clear H'
  obtain ⟨x8_1, rfl, HA, HK1, ⟨m1, rfl⟩⟩ := hrel
  cases gk with
  | zero => exact absurd HA.out (by simp [zA.l0])
  | succ k1 =>
   have H := HA.out
   clear HA
   simp only [zA.l0] at H
   by_cases c2 : x8_1 < (l0.length : Int)
   rotate_left
   ·
    rw [if_neg c2] at H
    have c2b0 := decide_eq_false c2
    clear c2
    obtain rfl := Option.some.inj H
    go_wp2
    go_ret
    exact ⟨by first | rfl | (simp; done) | (simp [*]; done), by repeat (first | exact jq.refl _ | apply jq.step)⟩
   rw [if_pos c2] at H
   have c2b0 := decide_eq_true c2
   clear c2
   by_cases c3 : 0 ≤ x8_1
   rotate_left
   ·
    rw [if_neg c3] at H
    exact absurd H (by simp)
   rw [if_pos c3] at H
   have c3b0 := decide_eq_true c3
   clear c3
   by_cases c4 : x8_1 < (l0.length : Int)
   rotate_left
   ·
    rw [if_neg c4] at H
    exact absurd H (by simp)
   rw [if_pos c4] at H
   have c4b0 := decide_eq_true c4
   clear c4
   by_cases c5 : (rd l0 x8_1) = 0
   rotate_left
   ·
    rw [if_neg c5] at H
    have c5b0 := beq_eq_false_iff_ne.mpr c5
    have c5b1 := bne_iff_ne.mpr c5
    obtain rfl := Option.some.inj H
    have p284 : 0 ≤ (x8_1 : Int) := of_decide_eq_true am_
    have q284 : x8_1 < (l0.length : Int) := of_decide_eq_true am_
    obtain ⟨ad284, e284, hx284_0⟩ := Kd.vS HR0.out x8_1 p284 q284
    cases e284
    replace p284 := eq_true p284
    replace q284 := eq_true q284
    go_wp2
    go_ret
    exact ⟨by first | rfl | (simp; done) | (simp [*]; done), by repeat (first | exact jq.refl _ | apply jq.step)⟩
   rw [if_pos c5] at H
   have c5b0 := beq_iff_eq.mpr c5
   have c5b1 := bne_eq_false_iff_eq.mpr c5
   clear c5
   have H' := jA.mk H
   clear H
   have p284 : 0 ≤ (x8_1 : Int) := of_decide_eq_true am_
   have q284 : x8_1 < (l0.length : Int) := of_decide_eq_true am_
   obtain ⟨ad284, e284, hx284_0⟩ := Kd.vS HR0.out x8_1 p284 q284
   cases e284
   replace p284 := eq_true p284
   replace q284 := eq_true q284
   go_wp2
   go_roundg k1
   case measure => have := HK1.out; omega
   case rel => exact ⟨(wrap64 (x8_1 + 1)), sd_, H', ⟨by have := HK1.out; omega⟩, by repeat (first | exact jq.refl _ | apply jq.step)⟩
theorem jIk {n : Int} (h : bad n = false) : 0 ≤ n ∧ n ≤ 40 := by
 have := jNg h
 have h1 := of_decide_eq_false this.1
 have h2 := of_decide_eq_false this.2
 omega
theorem jON {x0 x1 x2 x3 : Int} (h : mays x0 x1 x2 x3 = true) : (0 ≤ x0 ∧ x0 ≤ 40) ∧ (0 ≤ x1 ∧ x1 ≤ 40) ∧ (0 ≤ x2 ∧ x2 ≤ 40) ∧ 0 ≤ x3 ∧ x3 ≤ 40 := by
 unfold mays at h
 simp only [Bool.not_eq_true', Bool.or_eq_false_iff] at h
 exact ⟨jIk h.1, jIk h.2.1, jIk h.2.2.1, jIk h.2.2.2⟩
def degv (x0 x1 x2 x3 : Int) : Int := if mays x0 x1 x2 x3 = true then x0 + x1 + x2 + x3 else 0
def jAD.f (x0 x1 x2 x3 : Int) : Option Int := some (degv x0 x1 x2 x3)
set_option maxHeartbeats 4000000 in
theorem jAD.calls (x0 x1 x2 x3 : Int) (r : Int) (w : World) (h : jAD.f x0 x1 x2 x3 = some r) :
  Calls Tryz.prog 82 #[.agg #[.int .i64 x0, .int .i64 x1, .int .i64 x2, .int .i64 x3]] w fun e w' => e = .returned (.int .i64 r) ∧ Below w.heap.size w w' := by
 obtain rfl := Option.some.inj h
 clear h
 have HA0 := jA.mk (vD w (.cells #[.int .i64 x0, .int .i64 x1, .int .i64 x2, .int .i64 x3] 35))
 have HD0 := jA.mk (jQ (Below.refl _ w) (.cells #[.int .i64 x0, .int .i64 x1, .int .i64 x2, .int .i64 x3] 35))
 have hnot : ∀ (x : Bool) (w : World), (Op.unary .not (.bool x)).run Tryz.prog w = .ok (.bool (!x)) w := fun _ _ => rfl
 unfold degv
 cases hm : mays x0 x1 x2 x3 with
 | false =>
  go_enter Tryz.func82, Tryz.ntmps82
  go_wp2_with (go_at_call 75; refine (qm.calls x0 x1 x2 x3 _ _ rfl).mono ?_; rw [hm]; rintro e w1 ⟨rfl, hb⟩; have HA := jA.mk (jN HA0.out hb); have HD := jA.mk (jG HD0.out hb); have c0 : w1.cell? ⟨w.heap.size, 0, none⟩ = some (.int .i64 x0) := (jB HA.out 0).trans rfl; have c1 : w1.cell? ⟨w.heap.size, 1, none⟩ = some (.int .i64 x1) := (jB HA.out 1).trans rfl; have c2 : w1.cell? ⟨w.heap.size, 2, none⟩ = some (.int .i64 x2) := (jB HA.out 2).trans rfl; have c3 : w1.cell? ⟨w.heap.size, 3, none⟩ = some (.int .i64 x3) := (jB HA.out 3).trans rfl; clear hb)
  go_ret
  exact ⟨by simp, HD.out⟩
 | true =>
  obtain ⟨⟨a0, b0⟩, ⟨a1, b1⟩, ⟨a2, b2⟩, a3, b3⟩ := jON hm
  go_enter Tryz.func82, Tryz.ntmps82
  go_wp2_with (go_at_call 75; refine (qm.calls x0 x1 x2 x3 _ _ rfl).mono ?_; rw [hm]; rintro e w1 ⟨rfl, hb⟩; have HA := jA.mk (jN HA0.out hb); have HD := jA.mk (jG HD0.out hb); have c0 : w1.cell? ⟨w.heap.size, 0, none⟩ = some (.int .i64 x0) := (jB HA.out 0).trans rfl; have c1 : w1.cell? ⟨w.heap.size, 1, none⟩ = some (.int .i64 x1) := (jB HA.out 1).trans rfl; have c2 : w1.cell? ⟨w.heap.size, 2, none⟩ = some (.int .i64 x2) := (jB HA.out 2).trans rfl; have c3 : w1.cell? ⟨w.heap.size, 3, none⟩ = some (.int .i64 x3) := (jB HA.out 3).trans rfl; clear hb)
  have i0 : ∀ w, (Instr.index 35 (.agg #[.int .i64 x0, .int .i64 x1, .int .i64 x2, .int .i64 x3]) (.int .i64 0)).run Tryz.prog w = .ok (.int .i64 x0) w := fun _ => by kernel_rfl
  have i1 : ∀ w, (Instr.index 35 (.agg #[.int .i64 x0, .int .i64 x1, .int .i64 x2, .int .i64 x3]) (.int .i64 1)).run Tryz.prog w = .ok (.int .i64 x1) w := fun _ => by kernel_rfl
  have i2 : ∀ w, (Instr.index 35 (.agg #[.int .i64 x0, .int .i64 x1, .int .i64 x2, .int .i64 x3]) (.int .i64 2)).run Tryz.prog w = .ok (.int .i64 x2) w := fun _ => by kernel_rfl
  have i3 : ∀ w, (Instr.index 35 (.agg #[.int .i64 x0, .int .i64 x1, .int .i64 x2, .int .i64 x3]) (.int .i64 3)).run Tryz.prog w = .ok (.int .i64 x3) w := fun _ => by kernel_rfl
  clear hm
  refine wp_loop_rounds 5 ?_
  rw [rounds_succ]
  go_wp2
  rw [rounds_succ]
  go_wp2
  rw [rounds_succ]
  go_wp2
  rw [rounds_succ]
  go_wp2
  rw [rounds_succ]
  go_wp2
  go_ret
  exact ⟨by simp, HD.out⟩
-- NOT PRINTED: function 79 (mono_Cmp_2_1)
-- NOT PRINTED: function 78 (mono_Cmp_2)
-- NOT PRINTED: function 83 (mono_Cmp_3)
end Go.Proofs.YtoganbmeedimiaaGreat.POPressOne
