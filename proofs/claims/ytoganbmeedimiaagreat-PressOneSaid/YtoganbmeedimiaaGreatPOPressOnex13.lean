-- printed (pr.py)
import Derived.Test.YtoganbmeedimiaaGreatPOPressOnex12
namespace Go.Proofs.YtoganbmeedimiaaGreat.POPressOne
open Go.RowKit Go.Proofs.YtoganbmeedimiaaGreatN Go.Proofs.YtoganbmeedimiaaGreatW.PrintWords Go.Proofs.YtoganbmeedimiaaGreatW.PrintLast Go.Proofs.YtoganbmeedimiaaGreatW.PrintMore
attribute [local go_sem] zV zR qA zy vZ vY zU zQ
set_option maxHeartbeats 8000000
set_option maxRecDepth 100000
set_option linter.unusedVariables false
set_option linter.unusedSimpArgs false
def qc.f (k : Nat) (a0_0 : Bool) (l0_1 : List Int) (l0_2 : List Int) : Option (ByteArray × Int) := (vR.f k a0_0 l0_1 l0_2).bind fun t293 => (if t293 = true then (if a0_0 = true then ((jy.f k l0_1).bind fun bt294 => ((jy.f k l0_2).bind fun bt296 => ((some (([1] : List Int) : List Int)).bind fun y298 => (if (strOfNums y298).size + bt294.1.size ≤ 9223372036854775807 then (if ((strOfNums y298) ++ bt294.1).size + bt296.1.size ≤ 9223372036854775807 then (some (((strOfNums y298) ++ bt294.1) ++ bt296.1, 0)) else (none)) else (none))))) else ((jy.f k l0_1).bind fun bt301 => ((jy.f k l0_2).bind fun bt303 => ((some (([0] : List Int) : List Int)).bind fun y305 => (if (strOfNums y305).size + bt301.1.size ≤ 9223372036854775807 then (if ((strOfNums y305) ++ bt301.1).size + bt303.1.size ≤ 9223372036854775807 then (some (((strOfNums y305) ++ bt301.1) ++ bt303.1, 0)) else (none)) else (none)))))) else (some ((⟨#[]⟩ : ByteArray), 1)))
theorem qc.calls (k : Nat) (a0_0 : Bool) (A0_1 : Option Addr) (c0_1 : Nat) (l0_1 : List Int) (A0_2 : Option Addr) (c0_2 : Nat) (l0_2 : List Int) (r1 : ByteArray) (r2 : Int) (w : World) (hr0_1 : Kd.C (Kd.int .u64) w A0_1 l0_1.length l0_1) (hc0_1 : l0_1.length ≤ c0_1) (hr0_2 : Kd.C (Kd.int .u64) w A0_2 l0_2.length l0_2) (hc0_2 : l0_2.length ≤ c0_2) (h : qc.f k a0_0 l0_1 l0_2 = some (r1, r2)) :
  Calls Tryz.prog 51 #[.agg #[.bool a0_0, .slice A0_1 l0_1.length c0_1, .slice A0_2 l0_2.length c0_2]] w fun e w' => e = .returned (.tuple #[.string r1, .int .i64 r2]) ∧ Below w.heap.size w w' := by
 have hu33 := Tryz.underlying33
 have HR0_1 := jA.mk hr0_1
 have HC0_1 := jA.mk hc0_1
 clear hr0_1 hc0_1
 have HR0_2 := jA.mk hr0_2
 have HC0_2 := jA.mk hc0_2
 clear hr0_2 hc0_2
 have HB := jA.mk (Below.refl w.heap.size w)
 have H : ((vR.f k a0_0 l0_1 l0_2).bind fun t293 => (if t293 = true then (if a0_0 = true then ((jy.f k l0_1).bind fun bt294 => ((jy.f k l0_2).bind fun bt296 => ((some (([1] : List Int) : List Int)).bind fun y298 => (if (strOfNums y298).size + bt294.1.size ≤ 9223372036854775807 then (if ((strOfNums y298) ++ bt294.1).size + bt296.1.size ≤ 9223372036854775807 then (some (((strOfNums y298) ++ bt294.1) ++ bt296.1, 0)) else (none)) else (none))))) else ((jy.f k l0_1).bind fun bt301 => ((jy.f k l0_2).bind fun bt303 => ((some (([0] : List Int) : List Int)).bind fun y305 => (if (strOfNums y305).size + bt301.1.size ≤ 9223372036854775807 then (if ((strOfNums y305) ++ bt301.1).size + bt303.1.size ≤ 9223372036854775807 then (some (((strOfNums y305) ++ bt301.1) ++ bt303.1, 0)) else (none)) else (none)))))) else (some ((⟨#[]⟩ : ByteArray), 1)))) = some (r1, r2) := h
 clear h
 obtain ⟨t293, A2, H⟩ := oc_ H
 try dsimp only at H
 by_cases c3 : t293 = true
 rotate_left
 ·
  replace c3 := Bool.eq_false_iff.mpr c3
  subst c3
  replace H := in_ H
  simp only [Option.some.injEq, Prod.mk.injEq] at H
  obtain ⟨rfl, rfl⟩ := H
  go_enter Tryz.func51, Tryz.ntmps51
  go_wp2_with (first | ((with_reducible refine jl (N := 1) rfl ?_); refine bx_ 1 #[.bool a0_0, .slice A0_1 l0_1.length c0_1, .slice A0_2 l0_2.length c0_2] 33 ?_; intro gb292 hg w33 hbox hb; have BK292 := jA.mk (hbox); have GW292 := jA.mk ((by rw [hg]; exact (jE (bb_ HB)) : w.heap.size ≤ gb292)); have GE292 := GW292; replace HB := bs_ HB hb; clear hb hbox hg; obtain ⟨hcz34_0, hcz34_1, hcz34_2, hfz34_0, hfz34_1, hfz34_2⟩ := bf3_ BK292) | ((with_reducible refine jL (f := 74) rfl ?_); refine gl_ (some 10) Tryz.func74 #[.agg #[.bool a0_0, .slice A0_1 l0_1.length c0_1, .slice A0_2 l0_2.length c0_2]] ?_; (with_reducible refine (vR.calls k a0_0 _ _ l0_1 _ _ l0_2 false _ ?side1 ?side2 ?side3 ?side4 A2.out).mono ?_); (case side1 => exact cb_ HR0_1 HB); (case side2 => exact HC0_1.out); (case side3 => exact cb_ HR0_2 HB); (case side4 => exact HC0_2.out); rintro e w35 ⟨rfl, hb⟩; refine ⟨_, rfl, ?_⟩; replace BK292 := bk_ BK292 hb; replace HB := jA.mk (jG (bb1_ HB GE292) hb)))
  go_ret2
  exact ⟨ew_, (bb1_ HB GE292)⟩
 subst c3
 replace H := ip_ H
 by_cases c4 : a0_0 = true
 ·
  subst c4
  replace H := ip_ H
  replace H := ob_ H
  obtain ⟨⟨t294, t295⟩, A50, H⟩ := H
  try dsimp only at H
  have A5 := jA.mk A50
  clear A50
  replace H := ob_ H
  obtain ⟨⟨t296, t297⟩, A60, H⟩ := H
  try dsimp only at H
  have A6 := jA.mk A60
  clear A60
  obtain ⟨y298, hy298⟩ : ∃ y_ : List Int, y_ = (([1] : List Int)) := ⟨_, rfl⟩
  replace H : (if (strOfNums y298).size + t294.size ≤ 9223372036854775807 then (if ((strOfNums y298) ++ t294).size + t296.size ≤ 9223372036854775807 then (some (((strOfNums y298) ++ t294) ++ t296, 0)) else (none)) else (none)) = some (r1, r2) := by first | (rw [hy298]; with_reducible exact H) | (have H2_ := (Option.bind_some _ _).symm.trans H; rw [hy298]; with_reducible exact H2_) | (with_reducible exact hs_ H) | with_reducible exact H | (rw [hy298]; exact H) | exact H
  have Ny298 := jA.mk hy298
  clear hy298
  by_cases c7 : (strOfNums y298).size + t294.size ≤ 9223372036854775807
  rotate_left
  ·
   rw [if_neg c7] at H
   exact absurd H (by simp)
  rw [if_pos c7] at H
  have c7b0 := eq_true c7
  have c7b1 := decide_eq_true c7
  try have c7b2 : (9223372036854775807 < (strOfNums y298).size + t294.size) = False := eq_false (Nat.not_lt.2 c7)
  by_cases c8 : ((strOfNums y298) ++ t294).size + t296.size ≤ 9223372036854775807
  rotate_left
  ·
   rw [if_neg c8] at H
   exact absurd H (by simp)
  rw [if_pos c8] at H
  have c8b0 := eq_true c8
  have c8b1 := decide_eq_true c8
  try have c8b2 : (9223372036854775807 < ((strOfNums y298) ++ t294).size + t296.size) = False := eq_false (Nat.not_lt.2 c8)
  simp only [Option.some.injEq, Prod.mk.injEq] at H
  obtain ⟨rfl, rfl⟩ := H
  go_enter Tryz.func51, Tryz.ntmps51
  go_wp2_with (first | ((with_reducible refine jl (N := 1) rfl ?_); refine bx_ 1 #[.bool true, .slice A0_1 l0_1.length c0_1, .slice A0_2 l0_2.length c0_2] 33 ?_; intro gb292 hg w9 hbox hb; have BK292 := jA.mk (hbox); have GW292 := jA.mk ((by rw [hg]; exact (jE (bb_ HB)) : w.heap.size ≤ gb292)); have GE292 := GW292; replace HB := bs_ HB hb; clear hb hbox hg; obtain ⟨hcz10_0, hcz10_1, hcz10_2, hfz10_0, hfz10_1, hfz10_2⟩ := bf3_ BK292) | ((with_reducible refine jL (f := 74) rfl ?_); refine gl_ (some 10) Tryz.func74 #[.agg #[.bool true, .slice A0_1 l0_1.length c0_1, .slice A0_2 l0_2.length c0_2]] ?_; (with_reducible refine (vR.calls k true _ _ l0_1 _ _ l0_2 true _ ?side1 ?side2 ?side3 ?side4 A2.out).mono ?_); (case side1 => exact cb_ HR0_1 HB); (case side2 => exact HC0_1.out); (case side3 => exact cb_ HR0_2 HB); (case side4 => exact HC0_2.out); rintro e w11 ⟨rfl, hb⟩; refine ⟨_, rfl, ?_⟩; replace BK292 := bk_ BK292 hb; replace HB := jA.mk (jG (bb1_ HB GE292) hb); obtain ⟨hcz12_0, hcz12_1, hcz12_2, hfz12_0, hfz12_1, hfz12_2⟩ := bf3_ BK292) | ((with_reducible refine jL (f := 88) rfl ?_); refine gl_ (some 17) Tryz.func88 #[.slice A0_1 l0_1.length c0_1] ?_; (with_reducible refine (jy.calls k _ _ l0_1 t294 t295 _ ?side1 ?side2 A5.out).mono ?_); (case side1 => exact cb_ HR0_1 HB); (case side2 => exact HC0_1.out); rintro e w13 ⟨rfl, hb⟩; refine ⟨_, rfl, ?_⟩; replace BK292 := bk_ BK292 hb; replace HB := jA.mk (jG (bb1_ HB GE292) hb); obtain ⟨hcz14_0, hcz14_1, hcz14_2, hfz14_0, hfz14_1, hfz14_2⟩ := bf3_ BK292) | ((with_reducible refine jL (f := 88) rfl ?_); refine gl_ (some 23) Tryz.func88 #[.slice A0_2 l0_2.length c0_2] ?_; (with_reducible refine (jy.calls k _ _ l0_2 t296 t297 _ ?side1 ?side2 A6.out).mono ?_); (case side1 => exact cb_ HR0_2 HB); (case side2 => exact HC0_2.out); rintro e w15 ⟨rfl, hb⟩; refine ⟨_, rfl, ?_⟩; replace BK292 := bk_ BK292 hb; replace HB := jA.mk (jG (bb1_ HB GE292) hb)) | ((with_reducible refine jl (N := 27) rfl ?_); refine Kd.jHA (Kd.int .u8) _ 5 ?hg (N := 27) ?hd (xs := ([1] : List Int)) (inner := [.int .u8 1]) (ok := fun _ => True) (okp := fun _ => True) ?hr ?hp (fun _ hk => hk) trivial (Below.refl _ _) (Nat.le_refl _) (by simp) ?_; (case hd => rfl); (case hg => rfl); (case hr => exact gs_); (case hp => exact (Reps.one (show Kd.M (Kd.int .u8) _ _ _ 1 [.int .u8 1] from rfl) (Reps.none _ _))); intro v299 w16 ho17 hb hg_ hnew_; clear hg_ hnew_; (first | rw [← Ny298.out] at ho17 | (simp only [Int.reduceToNat] at ho17; rw [← Ny298.out] at ho17)); have HO300 := jA.mk (Kd.jk ho17 (jE (bb1_ HB GE292))); replace BK292 := bk_ BK292 hb; replace HB := jA.mk (jG (bb1_ HB GE292) hb); clear hb ho17; have hcv18 := jAZ (P := Tryz.prog) Tryz.underlying58 Tryz.underlying5 Tryz.underlying9 (Kd.jAW HO300.out)))
  go_ret2
  exact ⟨ew_, (bb1_ HB GE292)⟩
 replace c4 := Bool.eq_false_iff.mpr c4
 subst c4
 replace H := in_ H
 replace H := ob_ H
 obtain ⟨⟨t301, t302⟩, A190, H⟩ := H
 try dsimp only at H
 have A19 := jA.mk A190
 clear A190
 replace H := ob_ H
 obtain ⟨⟨t303, t304⟩, A200, H⟩ := H
 try dsimp only at H
 have A20 := jA.mk A200
 clear A200
 obtain ⟨y305, hy305⟩ : ∃ y_ : List Int, y_ = (([0] : List Int)) := ⟨_, rfl⟩
 replace H : (if (strOfNums y305).size + t301.size ≤ 9223372036854775807 then (if ((strOfNums y305) ++ t301).size + t303.size ≤ 9223372036854775807 then (some (((strOfNums y305) ++ t301) ++ t303, 0)) else (none)) else (none)) = some (r1, r2) := by first | (rw [hy305]; with_reducible exact H) | (have H2_ := (Option.bind_some _ _).symm.trans H; rw [hy305]; with_reducible exact H2_) | (with_reducible exact hs_ H) | with_reducible exact H | (rw [hy305]; exact H) | exact H
 have Ny305 := jA.mk hy305
 clear hy305
 by_cases c21 : (strOfNums y305).size + t301.size ≤ 9223372036854775807
 rotate_left
 ·
  rw [if_neg c21] at H
  exact absurd H (by simp)
 rw [if_pos c21] at H
 have c21b0 := eq_true c21
 have c21b1 := decide_eq_true c21
 try have c21b2 : (9223372036854775807 < (strOfNums y305).size + t301.size) = False := eq_false (Nat.not_lt.2 c21)
 by_cases c22 : ((strOfNums y305) ++ t301).size + t303.size ≤ 9223372036854775807
 rotate_left
 ·
  rw [if_neg c22] at H
  exact absurd H (by simp)
 rw [if_pos c22] at H
 have c22b0 := eq_true c22
 have c22b1 := decide_eq_true c22
 try have c22b2 : (9223372036854775807 < ((strOfNums y305) ++ t301).size + t303.size) = False := eq_false (Nat.not_lt.2 c22)
 simp only [Option.some.injEq, Prod.mk.injEq] at H
 obtain ⟨rfl, rfl⟩ := H
 go_enter Tryz.func51, Tryz.ntmps51
 go_wp2_with (first | ((with_reducible refine jl (N := 1) rfl ?_); refine bx_ 1 #[.bool false, .slice A0_1 l0_1.length c0_1, .slice A0_2 l0_2.length c0_2] 33 ?_; intro gb292 hg w23 hbox hb; have BK292 := jA.mk (hbox); have GW292 := jA.mk ((by rw [hg]; exact (jE (bb_ HB)) : w.heap.size ≤ gb292)); have GE292 := GW292; replace HB := bs_ HB hb; clear hb hbox hg; obtain ⟨hcz24_0, hcz24_1, hcz24_2, hfz24_0, hfz24_1, hfz24_2⟩ := bf3_ BK292) | ((with_reducible refine jL (f := 74) rfl ?_); refine gl_ (some 10) Tryz.func74 #[.agg #[.bool false, .slice A0_1 l0_1.length c0_1, .slice A0_2 l0_2.length c0_2]] ?_; (with_reducible refine (vR.calls k false _ _ l0_1 _ _ l0_2 true _ ?side1 ?side2 ?side3 ?side4 A2.out).mono ?_); (case side1 => exact cb_ HR0_1 HB); (case side2 => exact HC0_1.out); (case side3 => exact cb_ HR0_2 HB); (case side4 => exact HC0_2.out); rintro e w25 ⟨rfl, hb⟩; refine ⟨_, rfl, ?_⟩; replace BK292 := bk_ BK292 hb; replace HB := jA.mk (jG (bb1_ HB GE292) hb); obtain ⟨hcz26_0, hcz26_1, hcz26_2, hfz26_0, hfz26_1, hfz26_2⟩ := bf3_ BK292) | ((with_reducible refine jL (f := 88) rfl ?_); refine gl_ (some 17) Tryz.func88 #[.slice A0_1 l0_1.length c0_1] ?_; (with_reducible refine (jy.calls k _ _ l0_1 t301 t302 _ ?side1 ?side2 A19.out).mono ?_); (case side1 => exact cb_ HR0_1 HB); (case side2 => exact HC0_1.out); rintro e w27 ⟨rfl, hb⟩; refine ⟨_, rfl, ?_⟩; replace BK292 := bk_ BK292 hb; replace HB := jA.mk (jG (bb1_ HB GE292) hb); obtain ⟨hcz28_0, hcz28_1, hcz28_2, hfz28_0, hfz28_1, hfz28_2⟩ := bf3_ BK292) | ((with_reducible refine jL (f := 88) rfl ?_); refine gl_ (some 23) Tryz.func88 #[.slice A0_2 l0_2.length c0_2] ?_; (with_reducible refine (jy.calls k _ _ l0_2 t303 t304 _ ?side1 ?side2 A20.out).mono ?_); (case side1 => exact cb_ HR0_2 HB); (case side2 => exact HC0_2.out); rintro e w29 ⟨rfl, hb⟩; refine ⟨_, rfl, ?_⟩; replace BK292 := bk_ BK292 hb; replace HB := jA.mk (jG (bb1_ HB GE292) hb)) | ((with_reducible refine jl (N := 27) rfl ?_); refine Kd.jHA (Kd.int .u8) _ 5 ?hg (N := 27) ?hd (xs := ([0] : List Int)) (inner := [.int .u8 0]) (ok := fun _ => True) (okp := fun _ => True) ?hr ?hp (fun _ hk => hk) trivial (Below.refl _ _) (Nat.le_refl _) (by simp) ?_; (case hd => rfl); (case hg => rfl); (case hr => exact gs_); (case hp => exact (Reps.one (show Kd.M (Kd.int .u8) _ _ _ 0 [.int .u8 0] from rfl) (Reps.none _ _))); intro v306 w30 ho31 hb hg_ hnew_; clear hg_ hnew_; (first | rw [← Ny305.out] at ho31 | (simp only [Int.reduceToNat] at ho31; rw [← Ny305.out] at ho31)); have HO307 := jA.mk (Kd.jk ho31 (jE (bb1_ HB GE292))); replace BK292 := bk_ BK292 hb; replace HB := jA.mk (jG (bb1_ HB GE292) hb); clear hb ho31; have hcv32 := jAZ (P := Tryz.prog) Tryz.underlying58 Tryz.underlying5 Tryz.underlying9 (Kd.jAW HO307.out)))
 go_ret2
 exact ⟨ew_, (bb1_ HB GE292)⟩
namespace PutT
def jJx (m : S35) : List Int := [m.f0 % 256, m.f1 % 256, m.f2 % 256, m.f3 % 256]
theorem jRN {g : Nat} {b0 b1 b2 b3 : Int} {w : World} (h : w.heap[g]? = some (.cells #[.int .u8 b0, .int .u8 b1, .int .u8 b2, .int .u8 b3] 94 (0, 0))) :
  (convert 58 9 (.slice (some ⟨g, 0, none⟩) 4 4)).run Tryz.prog w = .ok (.string (strOfNums [b0, b1, b2, b3])) w :=
 Kd.jNL Tryz.underlying58 Tryz.underlying5 Tryz.underlying9 ⟨rfl, by decide, fun _ => ⟨_, rfl, fun j p hj => ⟨[.int .u8 p], rfl, rfl, fun i u hu => by
  have hi : i = 0 := by cases i with | zero => rfl | succ i => simp at hu
  subst hi
  simp only [List.getElem?_cons_zero, Option.some.injEq] at hu; subst hu
  have hc := jB h (j * 1 + 0)
  match j, hj with
  | 0, hj => simp at hj; subst hj; exact hc.trans rfl
  | 1, hj => simp at hj; subst hj; exact hc.trans rfl
  | 2, hj => simp at hj; subst hj; exact hc.trans rfl
  | 3, hj => simp at hj; subst hj; exact hc.trans rfl
  | n + 4, hj => simp at hj⟩⟩⟩
theorem jPX (b0 b1 b2 b3 : Int) : (strOfNums [b0, b1, b2, b3]).size = 4 := rfl
def putT (k : Nat) (x : S37) : Option (ByteArray × Int) := (qc.f k x.f0.f0 x.f0.f1 x.f0.f2).bind fun r => if r.1.size ≤ 70000000000 then some (r.1 ++ strOfNums (jJx x.f1), r.2) else none
set_option maxHeartbeats 4000000 in
theorem jPf (k : Nat) (s : Bool) (A1 : Option Addr) (c1 : Nat) (l1 : List Int) (A2 : Option Addr) (c2 : Nat) (l2 : List Int) (m : S35) (r : ByteArray × Int) (w : World) (hr1 : Kd.C (Kd.int .u64) w A1 l1.length l1) (hc1 : l1.length ≤ c1) (hr2 : Kd.C (Kd.int .u64) w A2 l2.length l2) (hc2 : l2.length ≤ c2) (h : putT k ⟨⟨s, l1, l2⟩, m⟩ = some r) :
  Calls Tryz.prog 24 #[.agg #[.bool s, .slice A1 l1.length c1, .slice A2 l2.length c2, .int .i64 m.f0, .int .i64 m.f1, .int .i64 m.f2, .int .i64 m.f3]] w fun e w' => e = .returned (.tuple #[.string r.1, .int .i64 r.2]) ∧ Below w.heap.size w w' := by
 unfold putT at h
 obtain ⟨⟨p, q⟩, hp, h⟩ := Option.bind_eq_some_iff.1 h
 split at h
 rotate_left
 ·
  cases h
 rename_i hsz
 cases h
 obtain ⟨m0, m1, m2, m3⟩ := m
 dsimp only at hsz hp ⊢
 have H := fun W hb => qc.calls k s A1 c1 l1 A2 c2 l2 p q W (Kd.vQ hr1 hb) hc1 (Kd.vQ hr2 hb) hc2 hp
 have HA0 := jA.mk (vD w (.cells #[.bool s, .slice A1 l1.length c1, .slice A2 l2.length c2, .int .i64 m0, .int .i64 m1, .int .i64 m2, .int .i64 m3] 37))
 have HD0 := jA.mk (jQ (Below.refl _ w) (.cells #[.bool s, .slice A1 l1.length c1, .slice A2 l2.length c2, .int .i64 m0, .int .i64 m1, .int .i64 m2, .int .i64 m3] 37))
 have hH := jA.mk H
 clear H hr1 hr2 hp
 have hu_37 := Tryz.underlying37
 have hu_33 := Tryz.underlying33
 have hu_35 := Tryz.underlying35
 have hu_94 := Tryz.underlying94
 have i0 : ∀ w, (Instr.index 35 (.agg #[.int .i64 m0, .int .i64 m1, .int .i64 m2, .int .i64 m3]) (.int .i64 0)).run Tryz.prog w = .ok (.int .i64 m0) w := fun _ => by kernel_rfl
 have i1 : ∀ w, (Instr.index 35 (.agg #[.int .i64 m0, .int .i64 m1, .int .i64 m2, .int .i64 m3]) (.int .i64 1)).run Tryz.prog w = .ok (.int .i64 m1) w := fun _ => by kernel_rfl
 have i2 : ∀ w, (Instr.index 35 (.agg #[.int .i64 m0, .int .i64 m1, .int .i64 m2, .int .i64 m3]) (.int .i64 2)).run Tryz.prog w = .ok (.int .i64 m2) w := fun _ => by kernel_rfl
 have i3 : ∀ w, (Instr.index 35 (.agg #[.int .i64 m0, .int .i64 m1, .int .i64 m2, .int .i64 m3]) (.int .i64 3)).run Tryz.prog w = .ok (.int .i64 m3) w := fun _ => by kernel_rfl
 go_enter Tryz.func24, Tryz.ntmps24
 go_wp2_with (first | (go_at_call 51; refine (hH.out _ HD0.out).mono ?_; rintro e w1 ⟨rfl, hb⟩; have HA := jA.mk (jN HA0.out hb); have HD := jA.mk (jG HD0.out hb); clear hb) | ((with_reducible refine jl (N := 6) rfl ?_); (try (refine jg (by rfl) ?_; dsimp only)); refine bx_ 6 #[.int .u8 0, .int .u8 0, .int .u8 0, .int .u8 0] 94 ?_; intro g hg w2 hbox hb; have HB := jA.mk hbox; have HG := jA.mk (show w.heap.size ≤ g by rw [hg]; exact HD.out.size); have HA2 := jA.mk (jN HA.out hb); have HD2 := jA.mk (jG HD.out hb); clear hbox hb hg; have d0 : w2.cell? ⟨w.heap.size, 0, none⟩ = some (.bool s) := (jB HA2.out 0).trans rfl; have d1 : w2.cell? ⟨w.heap.size, 1, none⟩ = some (.slice A1 l1.length c1) := (jB HA2.out 1).trans rfl; have d2 : w2.cell? ⟨w.heap.size, 2, none⟩ = some (.slice A2 l2.length c2) := (jB HA2.out 2).trans rfl; have d3 : w2.cell? ⟨w.heap.size, 3, none⟩ = some (.int .i64 m0) := (jB HA2.out 3).trans rfl; have d4 : w2.cell? ⟨w.heap.size, 4, none⟩ = some (.int .i64 m1) := (jB HA2.out 4).trans rfl; have d5 : w2.cell? ⟨w.heap.size, 5, none⟩ = some (.int .i64 m2) := (jB HA2.out 5).trans rfl; have d6 : w2.cell? ⟨w.heap.size, 6, none⟩ = some (.int .i64 m3) := (jB HA2.out 6).trans rfl; clear HA HD HA2))
 clear d0 d1 d2 d3 d4 d5 d6
 have hf : ∀ i, w2.frozen? ⟨g, i, none⟩ = false := fun i => jP HB.out i
 have e0 : w2.cell? ⟨g, 0, none⟩ = some (.int .u8 0) := (jB HB.out 0).trans rfl
 have e1 : w2.cell? ⟨g, 1, none⟩ = some (.int .u8 0) := (jB HB.out 1).trans rfl
 have e2 : w2.cell? ⟨g, 2, none⟩ = some (.int .u8 0) := (jB HB.out 2).trans rfl
 have e3 : w2.cell? ⟨g, 3, none⟩ = some (.int .u8 0) := (jB HB.out 3).trans rfl
 refine wp_loop_rounds 5 ?_
 rw [rounds_succ]
 go_wp2
 rw [rounds_succ]
 go_wp2
 rw [rounds_succ]
 go_wp2
 rw [rounds_succ]
 go_wp2
 rw [rounds_succ]
 go_wp2
 have HX := jM (jM (jM (jM HB.out 0 (.int .u8 (m0 % 256)) rfl) 1 (.int .u8 (m1 % 256)) rfl) 2 (.int .u8 (m2 % 256)) rfl) 3 (.int .u8 (m3 % 256)) rfl
 have HY := (((HD2.out.setCell (p := ⟨g, 0, none⟩) HG.out (.int .u8 (m0 % 256))).setCell (p := ⟨g, 1, none⟩) HG.out (.int .u8 (m1 % 256))).setCell (p := ⟨g, 2, none⟩) HG.out (.int .u8 (m2 % 256))).setCell (p := ⟨g, 3, none⟩) HG.out (.int .u8 (m3 % 256))
 clear e0 e1 e2 e3 hf HB HD2 i0 i1 i2 i3
 generalize ((((w2.setCell ⟨g, 0, none⟩ (.int .u8 (m0 % 256))).setCell ⟨g, 1, none⟩ (.int .u8 (m1 % 256))).setCell ⟨g, 2, none⟩ (.int .u8 (m2 % 256))).setCell ⟨g, 3, none⟩ (.int .u8 (m3 % 256))) = w3 at HX HY ⊢
 have hS := jPX (m0 % 256) (m1 % 256) (m2 % 256) (m3 % 256)
 have hC := jRN HX
 have HYA := jA.mk HY
 clear HX HY
 rw [hC]
 simp only [Result.andThen]
 rw [Oper.upon_value]
 go_wp2
 go_ret2
 exact ⟨rfl, HYA.out⟩
end PutT
namespace Bld
theorem jGl (x : Value) (w : World) : (callFunc 108 #[x]).run Tryz.prog w = .ok (.value x) w := by kernel_rfl
theorem jLQ : (Tryz.prog.info? 88).map (·.size) = some 2 := by kernel_rfl
theorem jJZ : liesAt Tryz.prog Tryz.prog.depth 88 (2 / Tryz.prog.cellsOf 88) 0 88 1 = true := by kernel_rfl
set_option maxHeartbeats 1000000 in
theorem jNB (b : Nat) (w : World) (h0 : w.cell? ⟨b, 0, none⟩ = some (.pointer (some ⟨b, 0, none⟩))) :
  Calls Tryz.prog 85 #[.pointer (some ⟨b, 0, none⟩)] w fun e w' => e = .returned (.tuple #[]) ∧ w' = w := by
 obtain ⟨j, hj, hjs⟩ := Option.map_eq_some_iff.1 jLQ
 go_enter Tryz.func85, Tryz.ntmps85
 go_wp2
 rw [Lib.run_neq_ptr_same w _ Tryz.underlying86 hj]
 go_wp2
 go_end0
 exact ⟨rfl, rfl⟩
set_option maxHeartbeats 1000000 in
theorem jLR (b : Nat) (w : World) (h0 : w.cell? ⟨b, 0, none⟩ = some (.pointer none)) (hsh : w.shape? b = some (88, 2)) (hfz : w.frozen? ⟨b, 0, none⟩ = false) :
  Calls Tryz.prog 85 #[.pointer (some ⟨b, 0, none⟩)] w fun e w' => e = .returned (.tuple #[]) ∧ w' = w.setCell ⟨b, 0, none⟩ (.pointer (some ⟨b, 0, none⟩)) := by
 obtain ⟨j, hj, hjs⟩ := Option.map_eq_some_iff.1 jLQ
 go_enter Tryz.func85, Tryz.ntmps85
 go_wp2
 rw [Lib.run_to_unsafe w ⟨b, 0, none⟩ Tryz.underlying86 Tryz.underlying147 hj (by rw [hjs]; decide) hsh (Nat.zero_lt_succ 1)]
 simp only [Result.andThen]
 rw [Oper.upon_value]
 go_wp2
 try rw [jGl]
 try simp only [Result.andThen]
 try rw [Oper.upon_value]
 go_wp2
 rw [Lib.run_from_unsafe w ⟨b, 0, none⟩ Tryz.underlying147 Tryz.underlying86 hj hsh jJZ]
 simp only [Result.andThen]
 rw [Oper.upon_value]
 go_wp2
 go_end0
 exact ⟨rfl, rfl⟩
theorem jLS (B b : Nat) (bs : List Value) (w : World) (h : Lib.IsBuilder 88 5 B b bs w) :
  Calls Tryz.prog 85 #[.pointer (some ⟨b, 0, none⟩)] w fun e w' => e = .returned (.tuple #[]) ∧ (Lib.BuilderAt 88 5 B b (.pointer (some ⟨b, 0, none⟩)) bs w' ∧ Below B w w') := by
 rcases h with h | h
 ·
  refine (jLR b w h.cell0 h.shape h.frozen0).mono ?_
  rintro e w' ⟨rfl, rfl⟩
  exact ⟨rfl, h.used _, (Below.refl B w).setCell (p := ⟨b, 0, none⟩) h.1 _⟩
 refine (jNB b w h.cell0).mono ?_
 rintro e w' ⟨rfl, rfl⟩
 exact ⟨rfl, h, Below.refl B _⟩
set_option maxHeartbeats 2000000 in
theorem jBm (B b : Nat) (bs : List Value) (s : ByteArray) (w : World) (h : Lib.IsBuilder 88 5 B b bs w) (hlen : bs.length + s.size ≤ 140737488355328) (hBw : B ≤ w.heap.size) :
  Calls Tryz.prog 48 #[.pointer (some ⟨b, 0, none⟩), .string s] w fun e w' => e = .returned (.tuple #[.int .i64 s.size, .nilIface]) ∧ (Lib.BuilderAt 88 5 B b (.pointer (some ⟨b, 0, none⟩)) (bs ++ Lib.strCells s) w' ∧ Below B w w') := by
 obtain ⟨i0, hi, hz0, hz1, hz2⟩ := info_parts (show (Tryz.prog.info? 5).map (fun i => (i.zero, i.size, i.bytes)) = some (some (.int .u8 0), 1, 1) from kr_)
 go_enter Tryz.func48, Tryz.ntmps48
 go_wp2_with (go_at_call 85; refine (jLS B b bs _ h).mono ?_)
 rintro e w1 ⟨rfl, h1, hb1⟩
 obtain ⟨hB, v, hbk, hown, hne⟩ := h1
 have c0 : w1.cell? ⟨b, 0, none⟩ = some (.pointer (some ⟨b, 0, none⟩)) := by rw [Lib.cell_of_heap hbk]; rfl
 have c1 : w1.cell? ⟨b, 1, none⟩ = some v := by rw [Lib.cell_of_heap hbk]; rfl
 go_wp2_with (at_builtin; refine Lib.wpList_append_own_string _ rfl _ _ 58 9 rfl B 5 i0 Tryz.underlying58 Tryz.underlying9 hi hz0 hz1 hz2 _ _ _ rfl hown s rfl ?c3 ?c4 ?c5 ?_)
 case c3 => unfold maxLen; omega
 case c4 => omega
 case c5 => have := hb1.size; omega
 intro v' w2 hown' hgrow _
 have hlt : b < w1.heap.size := by
  rcases Nat.lt_or_ge b w1.heap.size with h' | h'
  ·
   exact h'
  simp [Array.getElem?_eq_none h'] at hbk
 have hb2 : w2.heap[b]? = some (.cells #[.pointer (some ⟨b, 0, none⟩), v] 88 (0, 0)) := by
  rw [hgrow.block b hlt (fun e => hne e.symm)]
  exact hbk
 have d0 : w2.cell? ⟨b, 0, none⟩ = some (.pointer (some ⟨b, 0, none⟩)) := by rw [Lib.cell_of_heap hb2]; rfl
 have d1 : w2.cell? ⟨b, 1, none⟩ = some v := by rw [Lib.cell_of_heap hb2]; rfl
 have f1 : w2.frozen? ⟨b, 1, none⟩ = false := Lib.frozen_of_heap hb2 1
 obtain ⟨ao, n', cap, rfl⟩ : ∃ ao n' cap, v' = .slice ao n' cap := by
  rcases hown'.2 with ⟨hv, _⟩ | ⟨g, cap, cur, hv, _⟩
  ·
   exact ⟨_, _, _, hv⟩
  exact ⟨_, _, _, hv⟩
 go_wp2
 go_ret2
 refine ⟨rfl, ?_, ?_⟩
 ·
  exact Lib.BuilderAt.put (T := 88) (e := 5) hB hb2 (bs' := bs ++ Lib.strCells s) (by simpa [Lib.strCells_length] using hown') (by decide)
 exact (hb1.grown hgrow (by have := hb1.size; omega) (fun k hk => (hown.lt k hk).1)).setCell (p := ⟨b, 1, none⟩) hB _
set_option maxHeartbeats 1000000 in
theorem jJY (B b : Nat) (l : List UInt8) (w : World) (h : Lib.IsBuilder 88 5 B b (Lib.byteCells l) w) (h0 : l ≠ []) :
  Calls Tryz.prog 50 #[.pointer (some ⟨b, 0, none⟩)] w fun e w' => e = .returned (.string ⟨l.toArray⟩) ∧ Below B w w' := by
 obtain ⟨p, hB, v, hbk, hown, hne⟩ : ∃ p, Lib.BuilderAt 88 5 B b p (Lib.byteCells l) w := by
  rcases h with h | h
  ·
   exact ⟨_, h⟩
  exact ⟨_, h⟩
 have hl0 : l.length ≠ 0 := by simpa using h0
 rw [Lib.byteCells_length] at hown
 obtain ⟨g, cap, cur, rfl, hbg, hg, hnc, hcm, hcs, htake⟩ : ∃ g cap cur, v = .slice (some ⟨g, 0, none⟩) l.length cap ∧ B ≤ g ∧ w.heap[g]? = some (.cells cur 5 (0, 0)) ∧ l.length ≤ cap ∧ cap ≤ maxLen ∧ cur.size = cap * 1 ∧ cur.toList.take (l.length * 1) = Lib.byteCells l := by
  rcases hown.2 with ⟨_, hz⟩ | ⟨g, cap, cur, hv, r⟩
  ·
   exact absurd hz hl0
  exact ⟨g, cap, cur, hv, r⟩
 have c1 : w.drew.cell? ⟨b, 1, none⟩ = some (.slice (some ⟨g, 0, none⟩) l.length cap) := by
  have : w.drew.heap[b]? = some (.cells #[p, .slice (some ⟨g, 0, none⟩) l.length cap] 88 (0, 0)) := hbk
  rw [Lib.cell_of_heap this]; rfl
 have hSD : (Builtin.unsafeSliceData_ #[58] 130 #[.slice (some ⟨g, 0, none⟩) l.length cap]).run Tryz.prog w.drew = .ok (.pointer (some ⟨g, 0, none⟩)) w.drew :=
  Lib.run_unsafeSliceData_row _ _ _ _ _ _ (by omega)
 have hUS : (Builtin.unsafeString_ #[130, 3] 9 #[.pointer (some ⟨g, 0, none⟩), .int .i64 l.length]).run Tryz.prog w.drew = .ok (.string ⟨l.toArray⟩) (w.drew.freeze ⟨g, 0, none⟩ l.length) := by
  refine Lib.run_unsafeString_row w.drew 130 3 9 5 Tryz.underlying130 kr_ g cur.size (by have hg' : w.drew.heap[g]? = some (.cells cur 5 (0, 0)) := hg; simp [World.shape?, hg']) l h0 (by omega) (by unfold maxLen at hcm; omega) ?_
  intro j x hx
  have := hown.cells (g := g) rfl j (.int .u8 x.toNat) (by simp [Lib.byteCells, hx])
  exact this
 have mixed : Tryz.prog.follows .mixedOrders = true := by kernel_rfl
 go_enter Tryz.func50, Tryz.ntmps50
 go_wp2
 go_region_o
 all_goals (go_wp2; go_ret; exact ⟨rfl, Lib.below_freeze (Below.drew (Below.refl B w)) (p := ⟨g, 0, none⟩) hbg _⟩)
end Bld
namespace AllT
def jGq (k : Nat) : List S37 → ByteArray → Option (ByteArray × Int)
 | [], acc => some (acc, 0)
 | x :: t, acc => (PutT.putT k x).bind fun r => if r.2 ≠ 0 then some ({ data := #[] }, r.2) else if acc.size + r.1.size ≤ 100000000000000 then jGq k t (acc ++ r.1) else none
def allT (k : Nat) (l : List S37) (most : Int) : Option (ByteArray × Int) :=
 if most < (l.length : Int) then some ({ data := #[] }, 1) else (vO.f k (IntKind.u64.wrap l.length)).bind fun h => if 1 ≤ h.size ∧ h.size ≤ 100000000000000 then jGq k l h else none
theorem jAt {B b : Nat} {bs : List Value} {w w' : World} (h : Lib.IsBuilder 88 5 B b bs w) (hb : Below w.heap.size w w') : Lib.IsBuilder 88 5 B b bs w' := by
 have key : ∀ p, Lib.BuilderAt 88 5 B b p bs w → Lib.BuilderAt 88 5 B b p bs w' := fun p h => by
  have hlt := h.lt
  obtain ⟨hB, v, hbk, hown, hne⟩ := h
  exact ⟨hB, v, (hb.block _ hlt).trans hbk, hown.kept (row := none) ⟨hb.os, hb.tape, hb.output, hb.size, fun j hj _ => hb.block j hj⟩ (by cases hv : v.ownBlock with | none => exact .inl rfl | some _ => exact .inr (by simp)), hne⟩
 rcases h with h | h
 ·
  exact .inl (key _ h)
 exact .inr (key _ h)
theorem jEe (s t : ByteArray) : Lib.strCells s ++ Lib.strCells t = Lib.strCells (s ++ t) := by
 unfold Lib.strCells; rw [ByteArray.data_append, Array.toList_append, List.map_append]
theorem jBE {B b gb : Nat} {bs : List Value} {w : World} {cs : Array Value} {T : TypeId} (h : Lib.IsBuilder 88 5 B b bs w) (hb : w.heap[gb]? = some (.cells cs T (0, 0))) (h1 : T ≠ 88) (h2 : T ≠ 5) (j : Nat) (u : Value) : Lib.IsBuilder 88 5 B b bs (w.setCell ⟨gb, j, none⟩ u) := by
 have key : ∀ p, Lib.BuilderAt 88 5 B b p bs w → Lib.BuilderAt 88 5 B b p bs (w.setCell ⟨gb, j, none⟩ u) := fun p h => by
  obtain ⟨hB, v, hbk, hown, hne⟩ := h
  have hbg : b ≠ gb := fun e => by subst e; rw [hbk] at hb; simp only [Option.some.injEq, Obj.cells.injEq] at hb; exact h1 hb.2.1.symm
  exact ⟨hB, v, (Below.heap_setCell w ⟨gb, j, none⟩ u b hbg).trans hbk, hown.kept (row := some gb) ⟨rfl, rfl, rfl, by simp [World.setCell], fun k _ hk => Below.heap_setCell _ _ _ _ (fun e => hk (by simp [e]))⟩ (.inr (Lib.ownBlock_ne hown hb h2)), hne⟩
 rcases h with h | h
 ·
  exact .inl (key _ h)
 exact .inr (key _ h)
theorem jBf {i : Int} {n : Nat} (h0 : 0 ≤ i) (h1 : i < n) (h : n ≤ 9223372036854775807) : wrap64 (i + 1) = i + 1 := by
 unfold wrap64; omega
theorem jJR {l : List S37} {i : Nat} (h : i < l.length) : l.drop i = jC l (i : Int) :: l.drop (i + 1) := by
 rw [List.drop_eq_getElem_cons h]; congr 1; unfold jC; rw [Int.toNat_natCast, List.getD_eq_getElem?_getD, List.getElem?_eq_getElem h]; rfl
theorem jJy {B b : Nat} {acc : ByteArray} {w : World} (h : Lib.IsBuilder 88 5 B b (Lib.strCells acc) w) (h1 : 1 ≤ acc.size) :
  Calls Tryz.prog 50 #[.pointer (some ⟨b, 0, none⟩)] w fun e w' => e = .returned (.string acc) ∧ Below B w w' := by
 have := Bld.jJY B b acc.data.toList w h (fun e => by
  have h2 : acc.data.toList.length = 0 := congrArg List.length e
  rw [Array.length_toList] at h2
  have h3 : acc.size = acc.data.size := rfl
  omega)
 rwa [show (⟨acc.data.toList.toArray⟩ : ByteArray) = acc from by cases acc; simp] at this
theorem jLi (k : Nat) (A : Option Addr) (c : Nat) (l : List S37) (most : Int) (r : ByteArray × Int) (w : World) (hr : Kd.C k37 w A l.length l) (hc : l.length ≤ c) (h : allT k l most = some r) :
  Calls Tryz.prog 23 #[.slice A l.length c, .int .i64 most, .func (.func 24) #[] #[]] w fun e w' => e = .returned (.tuple #[.string r.1, .int .i64 r.2]) ∧ Below w.heap.size w w' := by
 have HR := jA.mk hr
 have HC := jA.mk hc
 clear hr hc
 unfold allT at h
 by_cases c0 : most < (l.length : Int)
 ·
  rw [if_pos c0] at h
  cases h
  have c0b : decide (most < (l.length : Int)) = true := decide_eq_true c0
  clear c0
  go_enter Tryz.func23, Tryz.ntmps23
  go_wp2
  go_ret2
  exact ⟨rfl, Below.refl _ _⟩
 rw [if_neg c0] at h
 have c0b : decide (most < (l.length : Int)) = false := decide_eq_false c0
 clear c0
 obtain ⟨s0, hs0, h⟩ := Option.bind_eq_some_iff.1 h
 split at h
 rotate_left
 ·
  cases h
 rename_i hsz
 have HS0 := jA.mk hs0
 have HSZ := jA.mk hsz
 have HH := jA.mk h
 clear h hs0 hsz
 have hH := jA.mk (fun W => vO.calls k _ _ W HS0.out)
 go_enter Tryz.func23, Tryz.ntmps23
 go_wp2_with (first | ((with_reducible refine jl (N := 8) rfl ?_); (try (refine jg (by rfl) ?_; dsimp only)); refine bx_ 8 #[.pointer none, .slice none 0 0] 88 ?_; intro g hg w1 hbox hb; have HI := jA.mk (Or.inl ⟨by rw [hg]; exact Nat.le_refl _, .slice none 0 0, hbox, World.ownsRow_nil _ _ _ _, by simp [Value.ownBlock]⟩ : Lib.IsBuilder 88 5 w.heap.size g [] w1); have HB := jA.mk hb; clear hbox hb hg) | (go_at_call 49; refine (hH.out _).mono ?_; rintro e w2 ⟨rfl, hb⟩; have HI1 := jA.mk (jAt HI.out hb); have HB1 := jA.mk (jG HB.out hb); clear HI HB hb) | (go_at_call 48; refine (Bld.jBm w.heap.size g [] s0 _ HI1.out (by have := HSZ.out; simp; omega) HB1.out.size).mono ?_; rintro e w3 ⟨rfl, hi, hb⟩; have HI2 := jA.mk (Or.inr hi : Lib.IsBuilder 88 5 w.heap.size g ([] ++ Lib.strCells s0) w3); have HB2 := jA.mk (HB1.out.trans hb); clear HI1 HB1 hi hb))
 go_loopg [24] l.length (fun q v24 w' => ∃ (i : Int) (acc : ByteArray), v24 = .int .i64 i ∧ jA (0 ≤ i ∧ i + q = l.length) ∧ jA (1 ≤ acc.size ∧ acc.size ≤ 100000000000000) ∧ jA (jGq k (l.drop i.toNat) acc = some r) ∧ jA (Below w.heap.size w w') ∧ jA (Lib.IsBuilder 88 5 w.heap.size g (Lib.strCells acc) w'))
 case atStart => exact ⟨0, s0, rfl, ⟨by omega⟩, HSZ, HH, HB2, ⟨HI2.out⟩⟩
 case round =>
  clear HI2 HB2
  obtain ⟨i, acc, rfl, HQ, HZ, HA, HB, HI⟩ := hrel
  cases gk with
  | zero =>
   have hi : i.toNat = l.length := by have := HQ.out; omega
   have hd : decide (i < (l.length : Int)) = false := decide_eq_false (by have := HQ.out; omega)
   have h1 := HA.out
   rw [hi, List.drop_length, jGq] at h1
   cases h1
   go_wp2_with (go_at_call 50; refine (jJy HI.out HZ.out.1).mono ?_; rintro e w4 ⟨rfl, hb⟩; have HB3 := jA.mk (HB.out.trans hb); clear hb)
   go_ret2
   exact ⟨rfl, HB3.out⟩
  | succ q =>
   have hi0 : 0 ≤ i := HQ.out.1
   have hil : i < (l.length : Int) := by have := HQ.out; omega
   have h1 := HA.out
   rw [jJR (by omega), Int.toNat_of_nonneg hi0, jGq] at h1
   obtain ⟨⟨s, ec⟩, hp, h1⟩ := Option.bind_eq_some_iff.1 h1
   obtain ⟨ad, A1, c1, A2, c2, e0, x0, x1, x2, x3, x4, x5, x6, l1, g1, l2, g2⟩ := jDD HR.out i hi0 hil
   subst e0
   generalize jC l i = x at hp x0 x1 x2 x3 x4 x5 x6 l1 g1 l2 g2
   replace x0 := (HB.out.cell (World.block_lt_of_cell? w _ x0)).trans x0
   replace x1 := (HB.out.cell (World.block_lt_of_cell? w _ x1)).trans x1
   replace x2 := (HB.out.cell (World.block_lt_of_cell? w _ x2)).trans x2
   replace x3 := (HB.out.cell (World.block_lt_of_cell? w _ x3)).trans x3
   replace x4 := (HB.out.cell (World.block_lt_of_cell? w _ x4)).trans x4
   replace x5 := (HB.out.cell (World.block_lt_of_cell? w _ x5)).trans x5
   replace x6 := (HB.out.cell (World.block_lt_of_cell? w _ x6)).trans x6
   have HG1 := jA.mk g1
   have HG2 := jA.mk g2
   have HL1 := jA.mk l1
   have HL2 := jA.mk l2
   have HP := jA.mk hp
   clear g1 g2 l1 l2 hp
   have hd : decide (i < (l.length : Int)) = true := decide_eq_true hil
   replace hi0 := eq_true hi0
   replace hil := eq_true hil
   go_wp2_with (first | ((with_reducible refine jl (N := 10) rfl ?_); (try (refine jg (by rfl) ?_; dsimp only)); refine bx_ 10 #[.bool false, .slice none 0 0, .slice none 0 0, .int .i64 0, .int .i64 0, .int .i64 0, .int .i64 0] 37 ?_; intro gb hgb w6 hbox hb; have HBK := jA.mk hbox; have HGB := jA.mk (show w.heap.size ≤ gb by rw [hgb]; exact HB.out.size); have HBB := jA.mk (jG HB.out hb); have HIB := jA.mk (jAt HI.out hb); clear hbox hb hgb HB HI; have y0 := (jB HBK.out 0).trans (show _ = some (.bool false) from rfl); have y1 := (jB HBK.out 1).trans (show _ = some (.slice none 0 0) from rfl); have y2 := (jB HBK.out 2).trans (show _ = some (.slice none 0 0) from rfl); have y3 := (jB HBK.out 3).trans (show _ = some (.int .i64 0) from rfl); have y4 := (jB HBK.out 4).trans (show _ = some (.int .i64 0) from rfl); have y5 := (jB HBK.out 5).trans (show _ = some (.int .i64 0) from rfl); have y6 := (jB HBK.out 6).trans (show _ = some (.int .i64 0) from rfl); have z0 := jP HBK.out 0; have z1 := jP HBK.out 1; have z2 := jP HBK.out 2; have z3 := jP HBK.out 3; have z4 := jP HBK.out 4; have z5 := jP HBK.out 5; have z6 := jP HBK.out 6))
   have HBB2 := jA.mk (((((((HBB.out.setCell (p := ⟨gb, 0, none⟩) HGB.out (.bool x.f0.f0)).setCell (p := ⟨gb, 1, none⟩) HGB.out (.slice A1 x.f0.f1.length c1)).setCell (p := ⟨gb, 2, none⟩) HGB.out (.slice A2 x.f0.f2.length c2)).setCell (p := ⟨gb, 3, none⟩) HGB.out (.int .i64 x.f1.f0)).setCell (p := ⟨gb, 4, none⟩) HGB.out (.int .i64 x.f1.f1)).setCell (p := ⟨gb, 5, none⟩) HGB.out (.int .i64 x.f1.f2)).setCell (p := ⟨gb, 6, none⟩) HGB.out (.int .i64 x.f1.f3))
   have HIB2 := jA.mk (jBE (jBE (jBE (jBE (jBE (jBE (jBE HIB.out HBK.out (by decide) (by decide) 0 (.bool x.f0.f0)) (jM HBK.out 0 (.bool x.f0.f0) rfl) (by decide) (by decide) 1 (.slice A1 x.f0.f1.length c1)) (jM (jM HBK.out 0 (.bool x.f0.f0) rfl) 1 (.slice A1 x.f0.f1.length c1) rfl) (by decide) (by decide) 2 (.slice A2 x.f0.f2.length c2)) (jM (jM (jM HBK.out 0 (.bool x.f0.f0) rfl) 1 (.slice A1 x.f0.f1.length c1) rfl) 2 (.slice A2 x.f0.f2.length c2) rfl) (by decide) (by decide) 3 (.int .i64 x.f1.f0)) (jM (jM (jM (jM HBK.out 0 (.bool x.f0.f0) rfl) 1 (.slice A1 x.f0.f1.length c1) rfl) 2 (.slice A2 x.f0.f2.length c2) rfl) 3 (.int .i64 x.f1.f0) rfl) (by decide) (by decide) 4 (.int .i64 x.f1.f1)) (jM (jM (jM (jM (jM HBK.out 0 (.bool x.f0.f0) rfl) 1 (.slice A1 x.f0.f1.length c1) rfl) 2 (.slice A2 x.f0.f2.length c2) rfl) 3 (.int .i64 x.f1.f0) rfl) 4 (.int .i64 x.f1.f1) rfl) (by decide) (by decide) 5 (.int .i64 x.f1.f2)) (jM (jM (jM (jM (jM (jM HBK.out 0 (.bool x.f0.f0) rfl) 1 (.slice A1 x.f0.f1.length c1) rfl) 2 (.slice A2 x.f0.f2.length c2) rfl) 3 (.int .i64 x.f1.f0) rfl) 4 (.int .i64 x.f1.f1) rfl) 5 (.int .i64 x.f1.f2) rfl) (by decide) (by decide) 6 (.int .i64 x.f1.f3))
   clear HBK HBB HIB y0 y1 y2 y3 y4 y5 y6 z0 z1 z2 z3 z4 z5 z6 x0 x1 x2 x3 x4 x5 x6
   generalize (((((((w6.setCell ⟨gb, 0, none⟩ (.bool x.f0.f0)).setCell ⟨gb, 1, none⟩ (.slice A1 x.f0.f1.length c1)).setCell ⟨gb, 2, none⟩ (.slice A2 x.f0.f2.length c2)).setCell ⟨gb, 3, none⟩ (.int .i64 x.f1.f0)).setCell ⟨gb, 4, none⟩ (.int .i64 x.f1.f1)).setCell ⟨gb, 5, none⟩ (.int .i64 x.f1.f2)).setCell ⟨gb, 6, none⟩ (.int .i64 x.f1.f3)) = w7 at HBB2 HIB2 ⊢
   refine (PutT.jPf k x.f0.f0 A1 c1 _ A2 c2 _ x.f1 (s, ec) _ (Kd.vQ HG1.out HBB2.out) HL1.out (Kd.vQ HG2.out HBB2.out) HL2.out HP.out).mono ?_
   rintro e w8 ⟨rfl, hb⟩
   have HI8 := jA.mk (jAt HIB2.out hb)
   have HB8 := jA.mk (jG HBB2.out hb)
   clear hb HBB2 HIB2
   try dsimp only at h1
   by_cases c3 : ec = 0
   rotate_left
   ·
    rw [if_pos c3] at h1
    cases h1
    have t3 : (ec != 0) = true := bne_iff_ne.mpr c3
    have t4 : (ec == 0) = false := beq_eq_false_iff_ne.mpr c3
    clear c3
    go_wp2
    go_ret2
    exact ⟨rfl, HB8.out⟩
   subst c3
   rw [if_neg (fun h => h rfl)] at h1
   split at h1
   rotate_left
   ·
    cases h1
   rename_i hsz
   have HN := jA.mk hsz
   have HAA := jA.mk h1
   clear h1 hsz
   go_wp2_with (go_at_call 48; refine (Bld.jBm w.heap.size g (Lib.strCells acc) s _ HI8.out (by rw [Lib.strCells_length]; have := HN.out; omega) HB8.out.size).mono ?_; rintro e w9 ⟨rfl, hi, hb⟩; have HI9 := jA.mk (Or.inr hi : Lib.IsBuilder 88 5 w.heap.size g (Lib.strCells acc ++ Lib.strCells s) w9); have HB9 := jA.mk (HB8.out.trans hb); clear HI8 HB8 hi hb)
   go_roundg q
   case measure => omega
   case rel => exact ⟨wrap64 (i + 1), acc ++ s, rfl, ⟨by rw [jBf HQ.out.1 (of_eq_true hil) HR.out.2.1]; have := HQ.out; omega⟩, ⟨by rw [ByteArray.size_append]; have := HN.out; have := HZ.out; omega⟩, ⟨by rw [jBf HQ.out.1 (of_eq_true hil) HR.out.2.1, show (i + 1).toNat = i.toNat + 1 by have := HQ.out; omega]; exact HAA.out⟩, HB9, ⟨by rw [← jEe]; exact HI9.out⟩⟩
end AllT
namespace PutP
def putP (k : Nat) (l : List S37) : Option (ByteArray × Int) :=
 (jh.f k 0 l).bind fun a => if a = true then AllT.allT k l 60 else (jh.f k 1 l).bind fun b => if b = true then AllT.allT k l 60 else (jh.f k 2 l).bind fun c => if c = true then AllT.allT k l 60 else some ({ data := #[] }, 1)
set_option maxHeartbeats 4000000 in
theorem jPg (k : Nat) (A : Option Addr) (c : Nat) (l : List S37) (r : ByteArray × Int) (w : World) (hr : Kd.C k37 w A l.length l) (hc : l.length ≤ c) (h : putP k l = some r) :
  Calls Tryz.prog 10 #[.slice A l.length c] w fun e w' => e = .returned (.tuple #[.string r.1, .int .i64 r.2]) ∧ Below w.heap.size w w' := by
 have HR := jA.mk hr
 have HC := jA.mk hc
 clear hr hc
 unfold putP at h
 have hnot : ∀ (x : Bool) (w : World), (Op.unary .not (.bool x)).run Tryz.prog w = .ok (.bool (!x)) w := fun _ _ => rfl
 obtain ⟨a, ha, h⟩ := Option.bind_eq_some_iff.1 h
 have HA := jA.mk ha
 clear ha
 cases a with
 | true =>
  have HL := jA.mk ((if_pos rfl).symm.trans h)
  clear h
  go_enter Tryz.func10, Tryz.ntmps10
  go_wp2_with fail
  refine (jh.calls k 0 A c l true _ HR.out HC.out HA.out).mono ?_
  rintro e w1 ⟨rfl, hb1⟩
  have HB1 := jA.mk hb1
  clear hb1
  go_wp2_with fail
  refine (AllT.jLi k A c l 60 r _ (Kd.vQ HR.out HB1.out) HC.out HL.out).mono ?_
  rintro e w2 ⟨rfl, hb2⟩
  have HB2 := jA.mk (jG HB1.out hb2)
  clear hb2
  go_wp2
  go_ret2
  exact ⟨rfl, HB2.out⟩
 | false =>
  rw [if_neg (by decide)] at h
  obtain ⟨b, hb, h⟩ := Option.bind_eq_some_iff.1 h
  have HB := jA.mk hb
  clear hb
  cases b with
  | true =>
   have HL := jA.mk ((if_pos rfl).symm.trans h)
   clear h
   go_enter Tryz.func10, Tryz.ntmps10
   go_wp2_with fail
   refine (jh.calls k 0 A c l false _ HR.out HC.out HA.out).mono ?_
   rintro e w1 ⟨rfl, hb1⟩
   have HB1 := jA.mk hb1
   clear hb1
   go_wp2_with fail
   refine (jh.calls k 1 A c l true _ (Kd.vQ HR.out HB1.out) HC.out HB.out).mono ?_
   rintro e w2 ⟨rfl, hb1⟩
   have HB2 := jA.mk (jG HB1.out hb1)
   clear hb1
   go_wp2_with fail
   refine (AllT.jLi k A c l 60 r _ (Kd.vQ HR.out HB2.out) HC.out HL.out).mono ?_
   rintro e w3 ⟨rfl, hb2⟩
   have HB3 := jA.mk (jG HB2.out hb2)
   clear hb2
   go_wp2
   go_ret2
   exact ⟨rfl, HB3.out⟩
  | false =>
   rw [if_neg (by decide)] at h
   obtain ⟨d, hd, h⟩ := Option.bind_eq_some_iff.1 h
   have HD := jA.mk hd
   clear hd
   go_enter Tryz.func10, Tryz.ntmps10
   go_wp2_with fail
   refine (jh.calls k 0 A c l false _ HR.out HC.out HA.out).mono ?_
   rintro e w1 ⟨rfl, hb1⟩
   have HB1 := jA.mk hb1
   clear hb1
   go_wp2_with fail
   refine (jh.calls k 1 A c l false _ (Kd.vQ HR.out HB1.out) HC.out HB.out).mono ?_
   rintro e w2 ⟨rfl, hb1⟩
   have HB2 := jA.mk (jG HB1.out hb1)
   clear hb1
   go_wp2_with fail
   refine (jh.calls k 2 A c l d _ (Kd.vQ HR.out HB2.out) HC.out HD.out).mono ?_
   rintro e w3 ⟨rfl, hb1⟩
   have HB3 := jA.mk (jG HB2.out hb1)
   clear hb1
   cases d with
   | true =>
    have HL := jA.mk ((if_pos rfl).symm.trans h)
    clear h
    go_wp2_with fail
    refine (AllT.jLi k A c l 60 r _ (Kd.vQ HR.out HB3.out) HC.out HL.out).mono ?_
    rintro e w4 ⟨rfl, hb2⟩
    have HB4 := jA.mk (jG HB3.out hb2)
    clear hb2
    go_wp2
    go_ret2
    exact ⟨rfl, HB4.out⟩
   | false =>
    rw [if_neg (by decide)] at h
    cases h
    go_wp2
    go_ret2
    exact ⟨rfl, HB3.out⟩
end PutP
namespace AllP
def jGr (k : Nat) : List (List S37) → ByteArray → Option (ByteArray × Int)
 | [], acc => some (acc, 0)
 | x :: t, acc => (PutP.putP k x).bind fun r => if r.2 ≠ 0 then some ({ data := #[] }, r.2) else if acc.size + r.1.size ≤ 100000000000000 then jGr k t (acc ++ r.1) else none
def allP (k : Nat) (l : List (List S37)) (most : Int) : Option (ByteArray × Int) :=
 if most < (l.length : Int) then some ({ data := #[] }, 1) else (vO.f k (IntKind.u64.wrap l.length)).bind fun h => if 1 ≤ h.size ∧ h.size ≤ 100000000000000 then jGr k l h else none
def rdP (xs : List (List S37)) (i : Int) : List S37 := xs.getD i.toNat []
theorem atP {w : World} {A : Option Addr} {n : Nat} {xs : List (List S37)} (h : Kd.C (Kd.slice 37 k37) w A n xs) (i : Int) (h0 : 0 ≤ i) (h1 : i < n) : ∃ ad A0 c0, A = some ad ∧ w.cell? (ad.add i.toNat) = some (.slice A0 (rdP xs i).length c0) ∧ (rdP xs i).length ≤ c0 ∧ Kd.C k37 w A0 (rdP xs i).length (rdP xs i) := by
 obtain ⟨ad, c, e, _, hK, hc0⟩ := Kd.jJk h ([] : List S37) i h0 h1
 obtain ⟨A0, c0, rfl, hl, hC⟩ := hK
 refine ⟨ad, A0, c0, e, ?_, hl, hC⟩
 have := hc0 0 _ rfl
 rwa [show i.toNat * (Kd.slice 37 k37).sz + 0 = i.toNat from Nat.mul_one _] at this
theorem jJS {l : List (List S37)} {i : Nat} (h : i < l.length) : l.drop i = rdP l (i : Int) :: l.drop (i + 1) := by
 rw [List.drop_eq_getElem_cons h]; congr 1; unfold rdP; rw [Int.toNat_natCast, List.getD_eq_getElem?_getD, List.getElem?_eq_getElem h]; rfl
theorem jQo (k : Nat) (A : Option Addr) (c : Nat) (l : List (List S37)) (most : Int) (r : ByteArray × Int) (w : World) (hr : Kd.C (Kd.slice 37 k37) w A l.length l) (hc : l.length ≤ c) (h : allP k l most = some r) :
  Calls Tryz.prog 28 #[.slice A l.length c, .int .i64 most, .func (.func 10) #[] #[]] w fun e w' => e = .returned (.tuple #[.string r.1, .int .i64 r.2]) ∧ Below w.heap.size w w' := by
 have HR := jA.mk hr
 have HC := jA.mk hc
 clear hr hc
 unfold allP at h
 by_cases c0 : most < (l.length : Int)
 ·
  rw [if_pos c0] at h
  cases h
  have c0b : decide (most < (l.length : Int)) = true := decide_eq_true c0
  clear c0
  go_enter Tryz.func28, Tryz.ntmps28
  go_wp2
  go_ret2
  exact ⟨rfl, Below.refl _ _⟩
 rw [if_neg c0] at h
 have c0b : decide (most < (l.length : Int)) = false := decide_eq_false c0
 clear c0
 obtain ⟨s0, hs0, h⟩ := Option.bind_eq_some_iff.1 h
 split at h
 rotate_left
 ·
  cases h
 rename_i hsz
 have HS0 := jA.mk hs0
 have HSZ := jA.mk hsz
 have HH := jA.mk h
 clear h hs0 hsz
 have hH := jA.mk (fun W => vO.calls k _ _ W HS0.out)
 go_enter Tryz.func28, Tryz.ntmps28
 go_wp2_with (first | ((with_reducible refine jl (N := 8) rfl ?_); (try (refine jg (by rfl) ?_; dsimp only)); refine bx_ 8 #[.pointer none, .slice none 0 0] 88 ?_; intro g hg w1 hbox hb; have HI := jA.mk (Or.inl ⟨by rw [hg]; exact Nat.le_refl _, .slice none 0 0, hbox, World.ownsRow_nil _ _ _ _, by simp [Value.ownBlock]⟩ : Lib.IsBuilder 88 5 w.heap.size g [] w1); have HB := jA.mk hb; clear hbox hb hg) | (go_at_call 49; refine (hH.out _).mono ?_; rintro e w2 ⟨rfl, hb⟩; have HI1 := jA.mk (AllT.jAt HI.out hb); have HB1 := jA.mk (jG HB.out hb); clear HI HB hb) | (go_at_call 48; refine (Bld.jBm w.heap.size g [] s0 _ HI1.out (by have := HSZ.out; simp; omega) HB1.out.size).mono ?_; rintro e w3 ⟨rfl, hi, hb⟩; have HI2 := jA.mk (Or.inr hi : Lib.IsBuilder 88 5 w.heap.size g ([] ++ Lib.strCells s0) w3); have HB2 := jA.mk (HB1.out.trans hb); clear HI1 HB1 hi hb))
 go_loopg [24] l.length (fun q v24 w' => ∃ (i : Int) (acc : ByteArray), v24 = .int .i64 i ∧ jA (0 ≤ i ∧ i + q = l.length) ∧ jA (1 ≤ acc.size ∧ acc.size ≤ 100000000000000) ∧ jA (jGr k (l.drop i.toNat) acc = some r) ∧ jA (Below w.heap.size w w') ∧ jA (Lib.IsBuilder 88 5 w.heap.size g (Lib.strCells acc) w'))
 case atStart => exact ⟨0, s0, rfl, ⟨by omega⟩, HSZ, HH, HB2, ⟨HI2.out⟩⟩
 case round =>
  clear HI2 HB2
  obtain ⟨i, acc, rfl, HQ, HZ, HA, HB, HI⟩ := hrel
  cases gk with
  | zero =>
   have hi : i.toNat = l.length := by have := HQ.out; omega
   have hd : decide (i < (l.length : Int)) = false := decide_eq_false (by have := HQ.out; omega)
   have h1 := HA.out
   rw [hi, List.drop_length, jGr] at h1
   cases h1
   go_wp2_with (go_at_call 50; refine (AllT.jJy HI.out HZ.out.1).mono ?_; rintro e w4 ⟨rfl, hb⟩; have HB3 := jA.mk (HB.out.trans hb); clear hb)
   go_ret2
   exact ⟨rfl, HB3.out⟩
  | succ q =>
   have hi0 : 0 ≤ i := HQ.out.1
   have hil : i < (l.length : Int) := by have := HQ.out; omega
   have h1 := HA.out
   rw [jJS (by omega), Int.toNat_of_nonneg hi0, jGr] at h1
   obtain ⟨⟨s, ec⟩, hp, h1⟩ := Option.bind_eq_some_iff.1 h1
   obtain ⟨ad, A1, c1, e0, x0, l1, g1⟩ := atP HR.out i hi0 hil
   subst e0
   generalize rdP l i = x at hp x0 l1 g1
   replace x0 := (HB.out.cell (World.block_lt_of_cell? w _ x0)).trans x0
   have HG1 := jA.mk g1
   have HL1 := jA.mk l1
   have HP := jA.mk hp
   clear g1 l1 hp
   have hd : decide (i < (l.length : Int)) = true := decide_eq_true hil
   replace hi0 := eq_true hi0
   replace hil := eq_true hil
   go_wp2_with fail
   refine (PutP.jPg k A1 c1 x (s, ec) _ (Kd.vQ HG1.out HB.out) HL1.out HP.out).mono ?_
   rintro e w8 ⟨rfl, hb⟩
   have HI8 := jA.mk (AllT.jAt HI.out hb)
   have HB8 := jA.mk (jG HB.out hb)
   clear hb HB HI x0
   try dsimp only at h1
   by_cases c3 : ec = 0
   rotate_left
   ·
    rw [if_pos c3] at h1
    cases h1
    have t3 : (ec != 0) = true := bne_iff_ne.mpr c3
    have t4 : (ec == 0) = false := beq_eq_false_iff_ne.mpr c3
    clear c3
    go_wp2
    go_ret2
    exact ⟨rfl, HB8.out⟩
   subst c3
   rw [if_neg (fun h => h rfl)] at h1
   split at h1
   rotate_left
   ·
    cases h1
   rename_i hsz
   have HN := jA.mk hsz
   have HAA := jA.mk h1
   clear h1 hsz
   go_wp2_with (go_at_call 48; refine (Bld.jBm w.heap.size g (Lib.strCells acc) s _ HI8.out (by rw [Lib.strCells_length]; have := HN.out; omega) HB8.out.size).mono ?_; rintro e w9 ⟨rfl, hi, hb⟩; have HI9 := jA.mk (Or.inr hi : Lib.IsBuilder 88 5 w.heap.size g (Lib.strCells acc ++ Lib.strCells s) w9); have HB9 := jA.mk (HB8.out.trans hb); clear HI8 HB8 hi hb)
   go_roundg q
   case measure => omega
   case rel => exact ⟨wrap64 (i + 1), acc ++ s, rfl, ⟨by rw [AllT.jBf HQ.out.1 (of_eq_true hil) HR.out.2.1]; have := HQ.out; omega⟩, ⟨by rw [ByteArray.size_append]; have := HN.out; have := HZ.out; omega⟩, ⟨by rw [AllT.jBf HQ.out.1 (of_eq_true hil) HR.out.2.1, show (i + 1).toNat = i.toNat + 1 by have := HQ.out; omega]; exact HAA.out⟩, HB9, ⟨by rw [← AllT.jEe]; exact HI9.out⟩⟩
set_option maxHeartbeats 1000000 in
theorem jKN (k : Nat) (A : Option Addr) (c : Nat) (l : List (List S37)) (r : ByteArray × Int) (w : World) (hr : Kd.C (Kd.slice 37 k37) w A l.length l) (hc : l.length ≤ c) (h : allP k l 24 = some r) :
  Calls Tryz.prog 12 #[.slice A l.length c] w fun e w' => e = .returned (.tuple #[.string r.1, .int .i64 r.2]) ∧ Below w.heap.size w w' := by
 have HP := jA.mk (jQo k A c l 24 r w hr hc h)
 clear h hr hc
 go_enter Tryz.func12, Tryz.ntmps12
 go_wp2_with fail
 refine HP.out.mono ?_
 rintro e w1 ⟨rfl, hb⟩
 have HB := jA.mk hb
 clear hb HP
 go_wp2
 go_ret2
 exact ⟨rfl, HB.out⟩
end AllP
-- NOT PRINTED: function 92 (octet_GetRat_1)
end Go.Proofs.YtoganbmeedimiaaGreat.POPressOne
