-- printed (pr.py)
import Derived.Test.YtijgeonhbmgikaaPORatioOrderx0
import Derived.Test.YtijgeonhbmgikaaPORatioOrderx5
import Derived.Test.YtijgeonhbmgikaaPORatioOrderx8
import Derived.Test.YtijgeonhbmgikaaPORatioOrderx9
import Derived.Test.YtijgeonhbmgikaaPORatioOrderx10
namespace Go.Proofs.Ytijgeonhbmgikaa.PORatioOrder
open Go.RowKit Go.Proofs.YtijgeonhbmgikaaN Go.Proofs.YtijgeonhbmgikaaW.PrintWords Go.Proofs.YtijgeonhbmgikaaW.PrintLast Go.Proofs.YtijgeonhbmgikaaW.PrintMore
attribute [local go_sem] qU qP qp qo zx zw qR qO
set_option maxHeartbeats 8000000
set_option maxRecDepth 100000
set_option linter.unusedVariables false
set_option linter.unusedSimpArgs false

/-! ### vK: function 51 -/
def vK.j0 : Nat → Bool → Bool → List Int → List Int → Bool → List Int → List Int → Option (Bool × List Int × List Int × Int)
 | 0, _, _, _, _, _, _, _ => none
 | k + 1, x15, x616000, x616001, x616002, x617000, x617001, x617002 => if x15 = true then (some (false, ([] : List Int), ([] : List Int), 1)) else ((jr.f k x616001 x617001).bind fun t620 => ((jr.f k x616002 x617002).bind fun t623 => ((vY.f (([t620, t623] : List (List Int)))).bind fun t629 => (if t629 = true then (some (false, ([] : List Int), ([] : List Int), 21)) else ((zP.f k (x616000 != x617000) t620 t623).bind fun bt630 => (some (bt630.1, bt630.2.1, bt630.2.2.1, bt630.2.2.2)))))))
def vK.f (k : Nat) (a0_0 : Bool) (l0_1 : List Int) (l0_2 : List Int) (a1_0 : Bool) (l1_1 : List Int) (l1_2 : List Int) : Option (Bool × List Int × List Int × Int) := (vT.f k a0_0 l0_1 l0_2).bind fun t618 => (if t618 = true then ((vT.f k a1_0 l1_1 l1_2).bind fun t619 => (vK.j0 k (!t619) a0_0 l0_1 l0_2 a1_0 l1_1 l1_2)) else (vK.j0 k true a0_0 l0_1 l0_2 a1_0 l1_1 l1_2))
theorem vK.vZ : ∀ k, (∀ y0 y1 y2 y3 y4 y5 y6, LeO (vK.j0 k y0 y1 y2 y3 y4 y5 y6) (vK.j0 (k + 1) y0 y1 y2 y3 y4 y5 y6))
 | 0 => fun _ _ _ _ _ _ _ r h => by simp [vK.j0] at h
 | k + 1 => by
  have ih0 := vK.vZ k
  ·
   intro y0 y1 y2 y3 y4 y5 y6
   unfold vK.j0
   repeat' first
   | (with_reducible exact ih0 _ _ _ _ _ _ _)
   | (with_reducible exact jr.mono _ _ _)
   | (with_reducible exact zP.mono _ _ _ _)
   | (with_reducible exact vT.mono _ _ _ _)
   | (with_reducible exact LeO.refl _)
   | (with_reducible exact LeO.none _)
   | (with_reducible refine LeO.ite ?_ ?_)
   | (with_reducible refine LeO.bind ?_ (fun _ => ?_))
theorem vK.mono : ∀ a0 a1 a2 a3 a4 a5 k, LeO (vK.f k a0 a1 a2 a3 a4 a5) (vK.f (k + 1) a0 a1 a2 a3 a4 a5) := by
 intro a0 a1 a2 a3 a4 a5 k
 have ih0 := vK.vZ k
 unfold vK.f
 repeat' first
   | (with_reducible exact ih0 _ _ _ _ _ _ _)
   | (with_reducible exact jr.mono _ _ _)
   | (with_reducible exact zP.mono _ _ _ _)
   | (with_reducible exact vT.mono _ _ _ _)
   | (with_reducible exact LeO.refl _)
   | (with_reducible exact LeO.none _)
   | (with_reducible refine LeO.ite ?_ ?_)
   | (with_reducible refine LeO.bind ?_ (fun _ => ?_))
def vK.T3 : Bool × List (List Nat × List Nat) := (true, [([], []), ([0], [0]), ([], []), ([2], [2]), ([1, 3], [1, 3]), ([], []), ([5], [5]), ([], []), ([7], [7]), ([6, 8, 4], [6, 8]), ([4, 9, 0, 1, 2, 3, 4], [4]), ([9, 10, 0, 1, 2, 3, 4, 5, 6, 7, 8, 9, 10], [9])])
def vK.B3 : List Nat := [0, 1, 0, 4, 15, 0, 32, 0, 128, 511, 1023, 2047]
theorem vK.tab3 : rtab .any (opsOf Try.f51 3) = vK.T3 := by kernel_rfl
theorem vK.jJa : jAg vK.T3.2 vK.B3 = true := by kernel_rfl
theorem vK.calls (k : Nat) (a0_0 : Bool) (A0_1 : Option Addr) (c0_1 : Nat) (l0_1 : List Int) (A0_2 : Option Addr) (c0_2 : Nat) (l0_2 : List Int) (a1_0 : Bool) (A1_1 : Option Addr) (c1_1 : Nat) (l1_1 : List Int) (A1_2 : Option Addr) (c1_2 : Nat) (l1_2 : List Int) (r1 : Bool) (r2 : List Int) (r3 : List Int) (r4 : Int) (w : World) (hr0_1 : Kd.C (Kd.int .u64) w A0_1 l0_1.length l0_1) (hc0_1 : l0_1.length ≤ c0_1) (hr0_2 : Kd.C (Kd.int .u64) w A0_2 l0_2.length l0_2) (hc0_2 : l0_2.length ≤ c0_2) (hr1_1 : Kd.C (Kd.int .u64) w A1_1 l1_1.length l1_1) (hc1_1 : l1_1.length ≤ c1_1) (hr1_2 : Kd.C (Kd.int .u64) w A1_2 l1_2.length l1_2) (hc1_2 : l1_2.length ≤ c1_2) (h : vK.f k a0_0 l0_1 l0_2 a1_0 l1_1 l1_2 = some (r1, r2, r3, r4)) :
  Calls Try.prog 51 #[.agg #[.bool a0_0, .slice A0_1 l0_1.length c0_1, .slice A0_2 l0_2.length c0_2], .agg #[.bool a1_0, .slice A1_1 l1_1.length c1_1, .slice A1_2 l1_2.length c1_2]] w fun e w' => ∃ v1_ v2_ : Value, e = .returned (.tuple #[.agg #[.bool r1, v1_, v2_], .int .i64 r4]) ∧ Kd.R (Kd.int .u64) 22 w' w.heap.size (fun k_ => some k_ ≠ (v2_ : Value).ownBlock) v1_ r2 ∧ Kd.R (Kd.int .u64) 22 w' w.heap.size (fun k_ => some k_ ≠ (v1_ : Value).ownBlock) v2_ r3 ∧ Below w.heap.size w w' := by
 have hu44 := Try.underlying44
 have HR0_1 := jA.mk hr0_1
 have HC0_1 := jA.mk hc0_1
 clear hr0_1 hc0_1
 have HR0_2 := jA.mk hr0_2
 have HC0_2 := jA.mk hc0_2
 clear hr0_2 hc0_2
 have HR1_1 := jA.mk hr1_1
 have HC1_1 := jA.mk hc1_1
 clear hr1_1 hc1_1
 have HR1_2 := jA.mk hr1_2
 have HC1_2 := jA.mk hc1_2
 clear hr1_2 hc1_2
 have HB := jA.mk (Below.refl w.heap.size w)
 have H : ((vT.f k a0_0 l0_1 l0_2).bind fun t618 => (if t618 = true then ((vT.f k a1_0 l1_1 l1_2).bind fun t619 => (vK.j0 k (!t619) a0_0 l0_1 l0_2 a1_0 l1_1 l1_2)) else (vK.j0 k true a0_0 l0_1 l0_2 a1_0 l1_1 l1_2))) = some (r1, r2, r3, r4) := h
 clear h
 have HC3 := jA.mk H
 clear H
 go_enter Try.func51, Try.ntmps51
 go_upto_region 1 with (first | ((with_reducible refine je (N := 2) rfl ?_); refine vQ ?hg (N := 2) ?hd (cs := #[.bool a0_0, .slice A0_1 l0_1.length c0_1, .slice A0_2 l0_2.length c0_2]) (t := 44) ?hr ?_; (case hd => rfl); (case hg => rfl); (case hr => exact gs_); intro gb615 hg w4 hbox hb; have BK615 := jA.mk (hbox); have GW615 := jA.mk ((by rw [hg]; exact (jB (bb_ HB)) : w.heap.size ≤ gb615)); have GE615 := jA.mk ((by rw [hg]; exact (jB (bb_ HB)) : w.heap.size ≤ gb615)); replace HB := bs_ HB hb; clear hb hbox hg) | ((with_reducible refine je (N := 3) rfl ?_); refine vQ ?hg (N := 3) ?hd (cs := #[.bool a1_0, .slice A1_1 l1_1.length c1_1, .slice A1_2 l1_2.length c1_2]) (t := 44) ?hr ?_; (case hd => rfl); (case hg => rfl); (case hr => exact gs_); intro gb616 hg w5 hbox hb; have BK616 := jA.mk (hbox); have GW616 := jA.mk ((by rw [hg]; exact (jB (bb1_ HB GE615)) : w.heap.size ≤ gb616)); have GE616 := jA.mk ((by rw [hg]; exact (jB (bb1_ HB GE615)) : w.heap.size ≤ gb616)); replace HB := jA.mk (jK (bb1_ HB GE615) hb); have NB615_616 := jA.mk ((by rw [hg]; exact Nat.ne_of_lt (vI (g := gb615) (o := .cells #[.bool a0_0, .slice A0_1 l0_1.length c0_1, .slice A0_2 l0_2.length c0_2] 44 (0, 0)) (kb_ BK615)) : gb615 ≠ gb616)); have NB616_615 := jA.mk ((by rw [hg]; exact Nat.ne_of_gt (vI (g := gb615) (o := .cells #[.bool a0_0, .slice A0_1 l0_1.length c0_1, .slice A0_2 l0_2.length c0_2] 44 (0, 0)) (kb_ BK615)) : gb616 ≠ gb615)); replace BK615 := bk_ BK615 hb; clear hb hbox hg) | ((with_reducible refine je (N := 4) rfl ?_); refine vQ ?hg (N := 4) ?hd (cs := #[.bool false, .slice none 0 0, .slice none 0 0]) (t := 44) ?hr ?_; (case hd => rfl); (case hg => rfl); (case hr => exact gs_); intro gb617 hg w6 hbox hb; have BK617 := jA.mk (hbox); have GW617 := jA.mk ((by rw [hg]; exact (jB (bb2_ HB GE615 GE616)) : w.heap.size ≤ gb617)); have GE617 := jA.mk ((by rw [hg]; exact (jB (bb2_ HB GE615 GE616)) : w.heap.size ≤ gb617)); replace HB := jA.mk (jK (bb2_ HB GE615 GE616) hb); have NB615_617 := jA.mk ((by rw [hg]; exact Nat.ne_of_lt (vI (g := gb615) (o := .cells #[.bool a0_0, .slice A0_1 l0_1.length c0_1, .slice A0_2 l0_2.length c0_2] 44 (0, 0)) (kb_ BK615)) : gb615 ≠ gb617)); have NB617_615 := jA.mk ((by rw [hg]; exact Nat.ne_of_gt (vI (g := gb615) (o := .cells #[.bool a0_0, .slice A0_1 l0_1.length c0_1, .slice A0_2 l0_2.length c0_2] 44 (0, 0)) (kb_ BK615)) : gb617 ≠ gb615)); replace BK615 := bk_ BK615 hb; have NB616_617 := jA.mk ((by rw [hg]; exact Nat.ne_of_lt (vI (g := gb616) (o := .cells #[.bool a1_0, .slice A1_1 l1_1.length c1_1, .slice A1_2 l1_2.length c1_2] 44 (0, 0)) (kb_ BK616)) : gb616 ≠ gb617)); have NB617_616 := jA.mk ((by rw [hg]; exact Nat.ne_of_gt (vI (g := gb616) (o := .cells #[.bool a1_0, .slice A1_1 l1_1.length c1_1, .slice A1_2 l1_2.length c1_2] 44 (0, 0)) (kb_ BK616)) : gb617 ≠ gb616)); replace BK616 := bk_ BK616 hb; clear hb hbox hg))
 (try simp only [Act.put, ss_])
 go_cut [15] (fun v15 wc => ∃ (kq : Nat) (x15_2 : Bool), v15 = .bool x15_2 ∧ jA (vK.j0 kq x15_2 a0_0 l0_1 l0_2 a1_0 l1_1 l1_2 = some (r1, r2, r3, r4)) ∧ jA (kq ≤ k) ∧ jA (wc.heap[gb615]? = some (.cells #[.bool a0_0, (.slice A0_1 l0_1.length c0_1), (.slice A0_2 l0_2.length c0_2)] 44 (0, 0))) ∧ jA (wc.heap[gb616]? = some (.cells #[.bool a1_0, (.slice A1_1 l1_1.length c1_1), (.slice A1_2 l1_2.length c1_2)] 44 (0, 0))) ∧ jA (wc.heap[gb617]? = some (.cells #[.bool false, (.slice none 0 0), (.slice none 0 0)] 44 (0, 0))) ∧ jA (Below w.heap.size w wc))
 case first =>
  have H := HC3.out
  clear HC3
  replace H := ob_ H
  obtain ⟨t618, A70, H⟩ := H
  try dsimp only at H
  have A7 := jA.mk A70
  clear A70
  by_cases c8 : t618 = true
  ·
   subst c8
   have H1 : ((vT.f k a1_0 l1_1 l1_2).bind fun t619 => (vK.j0 k (!t619) a0_0 l0_1 l0_2 a1_0 l1_1 l1_2)) = some (r1, r2, r3, r4) := by rw [if_pos rfl] at H; exact H
   clear H
   have H := H1
   clear H1
   replace H := ob_ H
   obtain ⟨t619, A90, H⟩ := H
   try dsimp only at H
   have A9 := jA.mk A90
   clear A90
   have H' := jA.mk H
   clear H
   have hnb10 := NB615_616.out
   have hnc10 := NB616_615.out
   have hnb11 := NB615_617.out
   have hnc11 := NB617_615.out
   have hcz12_0 : w6.cell? ⟨gb615, 0, none⟩ = some (.bool a0_0) := (jI BK615.out 0).trans rfl
   have hcz12_1 : w6.cell? ⟨gb615, 1, none⟩ = some (.slice A0_1 l0_1.length c0_1) := (jI BK615.out 1).trans rfl
   have hcz12_2 : w6.cell? ⟨gb615, 2, none⟩ = some (.slice A0_2 l0_2.length c0_2) := (jI BK615.out 2).trans rfl
   have hfz12_0 := jR BK615.out 0
   have hfz12_1 := jR BK615.out 1
   have hfz12_2 := jR BK615.out 2
   go_wp2_with (first | ((with_reducible refine jE (f := 27) rfl ?_); refine jh (some 9) rfl rfl Try.func27 kr_ rfl #[.agg #[.bool a0_0, .slice A0_1 l0_1.length c0_1, .slice A0_2 l0_2.length c0_2]] rfl mt_ ?_; (with_reducible refine (vT.calls k a0_0 _ _ l0_1 _ _ l0_2 true _ ?side1 ?side2 ?side3 ?side4 A7.out).mono ?_); (case side1 => exact cc_ (Kd.jS HR0_1.out HB.out)); (case side2 => exact HC0_1.out); (case side3 => exact cc_ (Kd.jS HR0_2.out HB.out)); (case side4 => exact HC0_2.out); rintro e w13 ⟨rfl, hb⟩; refine ⟨_, rfl, ?_⟩; replace BK615 := bk_ BK615 hb; replace BK616 := bk_ BK616 hb; replace BK617 := bk_ BK617 hb; replace HB := jA.mk (jK (bb3_ HB GE615 GE616 GE617) hb); have hnb14 := NB616_617.out; have hnc14 := NB617_616.out; obtain ⟨hcz15_0, hcz15_1, hcz15_2, hfz15_0, hfz15_1, hfz15_2⟩ := bf3_ BK616) | (go_at_call 27; (with_reducible refine (vT.calls k a1_0 _ _ l1_1 _ _ l1_2 t619 _ ?side1 ?side2 ?side3 ?side4 A9.out).mono ?_); (case side1 => exact cc_ (Kd.jS HR1_1.out HB.out)); (case side2 => exact HC1_1.out); (case side3 => exact cc_ (Kd.jS HR1_2.out HB.out)); (case side4 => exact HC1_2.out); rintro e w16 ⟨rfl, hb⟩; replace BK615 := bk_ BK615 hb; replace BK616 := bk_ BK616 hb; replace BK617 := bk_ BK617 hb; replace HB := jA.mk (jK (bb3_ HB GE615 GE616 GE617) hb)))
   go_meet
   case rel => exact ⟨_, (!t619), sd_, H', ⟨by first | omega | exact Nat.le_refl _⟩, ⟨by (with_reducible repeat (first | refine zq ?_ _ | refine vL ?_ | refine zC ?_ _)); exact BK615.out⟩, ⟨by (with_reducible repeat (first | refine zq ?_ _ | refine vL ?_ | refine zC ?_ _)); exact BK616.out⟩, ⟨by (with_reducible repeat (first | refine zq ?_ _ | refine vL ?_ | refine zC ?_ _)); exact BK617.out⟩, ⟨(bb3_ HB GE615 GE616 GE617)⟩⟩
  ·
   replace c8 := Bool.eq_false_iff.mpr c8
   subst c8
   have H1 : (vK.j0 k true a0_0 l0_1 l0_2 a1_0 l1_1 l1_2) = some (r1, r2, r3, r4) := by rw [if_neg (show ¬ (false = true) by decide)] at H; exact H
   clear H
   have H := H1
   clear H1
   have H' := jA.mk H
   clear H
   have hnb17 := NB615_616.out
   have hnc17 := NB616_615.out
   have hnb18 := NB615_617.out
   have hnc18 := NB617_615.out
   have hcz19_0 : w6.cell? ⟨gb615, 0, none⟩ = some (.bool a0_0) := (jI BK615.out 0).trans rfl
   have hcz19_1 : w6.cell? ⟨gb615, 1, none⟩ = some (.slice A0_1 l0_1.length c0_1) := (jI BK615.out 1).trans rfl
   have hcz19_2 : w6.cell? ⟨gb615, 2, none⟩ = some (.slice A0_2 l0_2.length c0_2) := (jI BK615.out 2).trans rfl
   have hfz19_0 := jR BK615.out 0
   have hfz19_1 := jR BK615.out 1
   have hfz19_2 := jR BK615.out 2
   go_wp2_with (first | ((with_reducible refine jE (f := 27) rfl ?_); refine jh (some 9) rfl rfl Try.func27 kr_ rfl #[.agg #[.bool a0_0, .slice A0_1 l0_1.length c0_1, .slice A0_2 l0_2.length c0_2]] rfl mt_ ?_; (with_reducible refine (vT.calls k a0_0 _ _ l0_1 _ _ l0_2 false _ ?side1 ?side2 ?side3 ?side4 A7.out).mono ?_); (case side1 => exact cc_ (Kd.jS HR0_1.out HB.out)); (case side2 => exact HC0_1.out); (case side3 => exact cc_ (Kd.jS HR0_2.out HB.out)); (case side4 => exact HC0_2.out); rintro e w20 ⟨rfl, hb⟩; refine ⟨_, rfl, ?_⟩; replace BK615 := bk_ BK615 hb; replace BK616 := bk_ BK616 hb; replace BK617 := bk_ BK617 hb; replace HB := jA.mk (jK (bb3_ HB GE615 GE616 GE617) hb)))
   go_meet
   case rel => exact ⟨_, (true), sd_, H', ⟨by first | omega | exact Nat.le_refl _⟩, ⟨by (with_reducible repeat (first | refine zq ?_ _ | refine vL ?_ | refine zC ?_ _)); exact BK615.out⟩, ⟨by (with_reducible repeat (first | refine zq ?_ _ | refine vL ?_ | refine zC ?_ _)); exact BK616.out⟩, ⟨by (with_reducible repeat (first | refine zq ?_ _ | refine vL ?_ | refine zC ?_ _)); exact BK617.out⟩, ⟨(bb3_ HB GE615 GE616 GE617)⟩⟩
 case rest =>
  clear HC3
  try clear c1
  try clear c2
  try clear p2
  try clear c5
  try clear c8
  try clear c10
  try clear c11
  try clear c14
  try clear c17
  try clear c18
  try clear hcz12_0
  try clear hcz12_1
  try clear hcz12_2
  try clear hcz15_0
  try clear hcz15_1
  try clear hcz15_2
  try clear hcz19_0
  try clear hcz19_1
  try clear hcz19_2
  try clear hfz12_0
  try clear hfz12_1
  try clear hfz12_2
  try clear hfz15_0
  try clear hfz15_1
  try clear hfz15_2
  try clear hfz19_0
  try clear hfz19_1
  try clear hfz19_2
  obtain ⟨kq, x15_2, rfl, HA, HJ2, BK615, BK616, BK617, HB⟩ := hcut
  cases kq with
  | zero => exact absurd HA.out (by simp [vK.j0])
  | succ kj2 =>
   have H := HA.out
   clear HA
   simp only [vK.j0] at H
   by_cases c21 : x15_2 = true
   ·
    subst c21
    have H1 : (some (false, ([] : List Int), ([] : List Int), 1)) = some (r1, r2, r3, r4) := by rw [if_pos rfl] at H; exact H
    clear H
    have H := H1
    clear H1
    simp only [Option.some.injEq, Prod.mk.injEq] at H
    obtain ⟨rfl, rfl, rfl, rfl⟩ := H
    have hnb22 := NB617_615.out
    have hnc22 := NB615_617.out
    have hnb23 := NB617_616.out
    have hnc23 := NB616_617.out
    have hcz24_0 : wc.cell? ⟨gb617, 0, none⟩ = some (.bool false) := (jI BK617.out 0).trans rfl
    have hcz24_1 : wc.cell? ⟨gb617, 1, none⟩ = some (.slice none 0 0) := (jI BK617.out 1).trans rfl
    have hcz24_2 : wc.cell? ⟨gb617, 2, none⟩ = some (.slice none 0 0) := (jI BK617.out 2).trans rfl
    have hfz24_0 := jR BK617.out 0
    have hfz24_1 := jR BK617.out 1
    have hfz24_2 := jR BK617.out 2
    go_wp2
    refine bodyPost_ret (qI rfl _ _ gb617 44 #[.bool false, .slice none 0 0, .slice none 0 0] (0, 0) _ rfl (by refine pk_ ?_; refine jv (cs := #[.bool false, .slice none 0 0, .slice none 0 0]) ?_ 2 _ rs_; refine pk_ ?_; refine jv (cs := #[.bool false, .slice none 0 0, .slice none 0 0]) ?_ 1 _ rs_; refine pk_ ?_; refine jv (cs := #[.bool false, .slice none 0 0, .slice none 0 0]) ?_ 0 _ rs_; refine pk_ ?_; exact BK617.out) Try.underlying44 rfl kr_) rfl ?_
    exact ⟨_, _, ew_, nl_, nl_, (bb3_ HB GE615 GE616 GE617)⟩
   ·
    replace c21 := Bool.eq_false_iff.mpr c21
    subst c21
    have H1 : ((jr.f kj2 l0_1 l1_1).bind fun t620 => ((jr.f kj2 l0_2 l1_2).bind fun t623 => ((vY.f (([t620, t623] : List (List Int)))).bind fun t629 => (if t629 = true then (some (false, ([] : List Int), ([] : List Int), 21)) else ((zP.f kj2 (a0_0 != a1_0) t620 t623).bind fun bt630 => (some (bt630.1, bt630.2.1, bt630.2.2.1, bt630.2.2.2))))))) = some (r1, r2, r3, r4) := by rw [if_neg (show ¬ (false = true) by decide)] at H; exact H
    clear H
    have H := H1
    clear H1
    replace H := ob_ H
    obtain ⟨t620, A250, H⟩ := H
    try dsimp only at H
    have A25 := jA.mk A250
    clear A250
    replace H := ob_ H
    obtain ⟨t623, A260, H⟩ := H
    try dsimp only at H
    have A26 := jA.mk A260
    clear A260
    obtain ⟨y626, hy626⟩ : ∃ y_ : List (List Int), y_ = (([t620, t623] : List (List Int))) := ⟨_, rfl⟩
    replace H : ((vY.f y626).bind fun t629 => (if t629 = true then (some (false, ([] : List Int), ([] : List Int), 21)) else ((zP.f kj2 (a0_0 != a1_0) t620 t623).bind fun bt630 => (some (bt630.1, bt630.2.1, bt630.2.2.1, bt630.2.2.2))))) = some (r1, r2, r3, r4) := by first | (rw [hy626]; with_reducible exact H) | (have H2_ := (Option.bind_some _ _).symm.trans H; rw [hy626]; with_reducible exact H2_) | (with_reducible exact hs_ H) | with_reducible exact H | (rw [hy626]; exact H) | exact H
    have Ny626 := jA.mk hy626
    clear hy626
    replace H := ob_ H
    obtain ⟨t629, A270, H⟩ := H
    try dsimp only at H
    have A27 := jA.mk A270
    clear A270
    by_cases c28 : t629 = true
    ·
     subst c28
     have H1 : (some (false, ([] : List Int), ([] : List Int), 21)) = some (r1, r2, r3, r4) := by rw [if_pos rfl] at H; exact H
     clear H
     have H := H1
     clear H1
     simp only [Option.some.injEq, Prod.mk.injEq] at H
     obtain ⟨rfl, rfl, rfl, rfl⟩ := H
     try go_wp2
     have n0_ := jA.mk (vL BK615.out)
     have n1_ := jA.mk (vL BK616.out)
     have n2_ := jA.mk (vL BK617.out)
     have n3_ := jA.mk (zR HB.out)
     clear BK615
     clear BK616
     clear BK617
     clear HB
     have BK615 := n0_
     have BK616 := n1_
     have BK617 := n2_
     have HB := n3_
     clear n0_ n1_ n2_ n3_
     refine jAh (n := 12) (S := fun w' => w'.cell? ⟨gb615, 0, none⟩ = some (.bool a0_0) ∧ w'.cell? ⟨gb615, 1, none⟩ = some (.slice A0_1 l0_1.length c0_1) ∧ w'.cell? ⟨gb615, 2, none⟩ = some (.slice A0_2 l0_2.length c0_2) ∧ w'.cell? ⟨gb616, 0, none⟩ = some (.bool a1_0) ∧ w'.cell? ⟨gb616, 1, none⟩ = some (.slice A1_1 l1_1.length c1_1) ∧ w'.cell? ⟨gb616, 2, none⟩ = some (.slice A1_2 l1_2.length c1_2)) (ds := []) #[false, false, false, false, false, false, false, false, false, false, false, false] kr_ rfl rfl ⟨(jI BK615.out 0).trans rfl, (jI BK615.out 1).trans rfl, (jI BK615.out 2).trans rfl, (jI BK616.out 0).trans rfl, (jI BK616.out 1).trans rfl, (jI BK616.out 2).trans rfl⟩ (fun hHeld => ?_); refine jAP vK.tab3 vK.jJa (fun HT_ HW_ => ?_)
     generalize wc.drew = w29 at BK615 BK616 BK617 HB hHeld ⊢
     refine pu_ 0 (some 17) (ba_ 12 1) (vU HT_.out kr_) ?_
     refine pu_ 2 (some 19) (ba_ 12 5) (vU HT_.out kr_) ?_
     refine pu_ 5 (some 22) (ba_ 12 37) (vU HT_.out kr_) ?_
     refine pu_ 7 (some 24) (ba_ 12 165) (vU HT_.out kr_) ?_
     refine tk6_ 1 (some 18) (ba_ 12 167) (zy HT_.out HW_.out kr_) hHeld ?_
     refine tk6_ 3 (some 20) (ba_ 12 175) (zy HT_.out HW_.out kr_) hHeld ?_
     refine tk6_ 6 (some 23) (ba_ 12 239) (zy HT_.out HW_.out kr_) hHeld ?_
     refine tk6_ 8 (some 25) (ba_ 12 495) (zy HT_.out HW_.out kr_) hHeld ?_
     refine one_ (i := 4) (N := some 21) (ba_ 12 511) rfl rfl (jAD HT_.out kr_) (by decide) (fun K hK => ?_)
     refine jAn Try.func88 kr_ rfl #[.slice A0_1 l0_1.length c0_1, .slice A1_1 l1_1.length c1_1] (by rfl) rfl rfl (by (try simp only [List.map_toArray, List.map_cons, List.map_nil]); first | done | rfl | (simp only [List.length_drop, List.length_take]; rfl)) ?_
     with_reducible refine (jr.calls kj2 _ _ l0_1 _ _ l1_1 t620 _ ?side1 ?side2 ?side3 ?side4 A25.out).mono ?_
     (case side1 => exact cc_ (Kd.jS HR0_1.out HB.out))
     (case side2 => exact HC0_1.out)
     (case side3 => exact cc_ (Kd.jS HR1_1.out HB.out))
     (case side4 => exact HC1_1.out)
     rintro e w30 ⟨v621, rfl, ho0, hb⟩
     refine ⟨_, rfl, ?_⟩
     have n0_ := jA.mk (Kd.jM ho0 (jB (bb3_ HB GE615 GE616 GE617)))
     have n1_ := bk_ BK615 hb
     have n2_ := bk_ BK616 hb
     have n3_ := bk_ BK617 hb
     have n4_ := jA.mk (jK (bb3_ HB GE615 GE616 GE617) hb)
     clear BK615
     clear BK616
     clear BK617
     clear HB
     have HO622 := n0_
     have BK615 := n1_
     have BK616 := n2_
     have BK617 := n3_
     have HB := n4_
     clear n0_ n1_ n2_ n3_ n4_
     (try clear hb)
     (try clear hb2)
     (try clear hk)
     (try clear hi)
     (try clear ho0)
     refine hK.out _ _ ⟨(jI BK615.out 0).trans rfl, (jI BK615.out 1).trans rfl, (jI BK615.out 2).trans rfl, (jI BK616.out 0).trans rfl, (jI BK616.out 1).trans rfl, (jI BK616.out 2).trans rfl⟩ (fun hHeld => ?_)
     clear hK K
     refine qK (a' := ?_) ?_ ?_
     rotate_left
     ·
      show Act.put _ (some 21) _ = _
      simp only [Act.put, ss_, zQ, zn]
      rfl
     refine one_ (i := 9) (N := some 26) (ba_ 12 1023) rfl rfl (jAD HT_.out kr_) (by decide) (fun K hK => ?_)
     refine jAn Try.func88 kr_ rfl #[.slice A0_2 l0_2.length c0_2, .slice A1_2 l1_2.length c1_2] (by rfl) rfl rfl (by (try simp only [List.map_toArray, List.map_cons, List.map_nil]); first | done | rfl | (simp only [List.length_drop, List.length_take]; rfl)) ?_
     with_reducible refine (jr.calls kj2 _ _ l0_2 _ _ l1_2 t623 _ ?side1 ?side2 ?side3 ?side4 A26.out).mono ?_
     (case side1 => exact cc_ (Kd.jS HR0_2.out HB.out))
     (case side2 => exact HC0_2.out)
     (case side3 => exact cc_ (Kd.jS HR1_2.out HB.out))
     (case side4 => exact HC1_2.out)
     rintro e w31 ⟨v624, rfl, ho0, hb⟩
     refine ⟨_, rfl, ?_⟩
     have n0_ := re_ HO622 ho0 hb
     have n1_ := jA.mk (Kd.jM (Kd.jH ho0 (Kd.R_lt (rR_ HO622))) (jB (bb3_ HB GE615 GE616 GE617)))
     have n2_ := bk_ BK615 hb
     have n3_ := bk_ BK616 hb
     have n4_ := bk_ BK617 hb
     have n5_ := jA.mk (jK (bb3_ HB GE615 GE616 GE617) hb)
     clear HO622
     clear BK615
     clear BK616
     clear BK617
     clear HB
     have HO622 := n0_
     have HO625 := n1_
     have BK615 := n2_
     have BK616 := n3_
     have BK617 := n4_
     have HB := n5_
     clear n0_ n1_ n2_ n3_ n4_ n5_
     (try clear hb)
     (try clear hb2)
     (try clear hk)
     (try clear hi)
     (try clear ho0)
     refine hK.out _ _ ⟨(jI BK615.out 0).trans rfl, (jI BK615.out 1).trans rfl, (jI BK615.out 2).trans rfl, (jI BK616.out 0).trans rfl, (jI BK616.out 1).trans rfl, (jI BK616.out 2).trans rfl⟩ (fun hHeld => ?_)
     clear hK K
     refine qK (a' := ?_) ?_ ?_
     rotate_left
     ·
      show Act.put _ (some 26) _ = _
      simp only [Act.put, ss_, zQ, zn]
      rfl
     refine pu_ 10 (some 6) (ba_ 12 2047) (vU HT_.out kr_) ?_
     refine pu_ 11 (some 7) (ba_ 12 4095) (vU HT_.out kr_) ?_
     refine jBK (jAy HT_.out kr_) ?_
     obtain ⟨Ao32, co32, eo32⟩ := Kd.jW HO622.out
     subst eo32
     obtain ⟨Ao33, co33, eo33⟩ := Kd.jW HO625.out
     subst eo33
     try go_wp2_with (first | ((with_reducible refine je (N := 29) rfl ?_); refine Kd.jHX (Kd.slice 22 (Kd.int .u64)) _ 35 ?hg (N' := 29) ?hd (xs := ([t620, t623] : List (List Int))) (inner := [.slice Ao32 t620.length co32, .slice Ao33 t623.length co33]) (ok := (fun k_ => k_ ≠ gb615 ∧ k_ ≠ gb616 ∧ k_ ≠ gb617)) (okp := (fun k_ => k_ ≠ gb615 ∧ k_ ≠ gb616 ∧ k_ ≠ gb617)) ?hr ?hp (fun _ hk => hk) ((show ∀ k_, w31.heap.size ≤ k_ → (fun k_ => k_ ≠ gb615 ∧ k_ ≠ gb616 ∧ k_ ≠ gb617) k_ from fun k_ hk => ⟨Kd.qc (g := gb615) (o := .cells #[.bool a0_0, .slice A0_1 l0_1.length c0_1, .slice A0_2 l0_2.length c0_2] 44 (0, 0)) (kb_ BK615) k_ hk, Kd.qc (g := gb616) (o := .cells #[.bool a1_0, .slice A1_1 l1_1.length c1_1, .slice A1_2 l1_2.length c1_2] 44 (0, 0)) (kb_ BK616) k_ hk, Kd.qc (g := gb617) (o := .cells #[.bool false, .slice none 0 0, .slice none 0 0] 44 (0, 0)) (kb_ BK617) k_ hk⟩) _ (Nat.le_refl _)) (Below.refl _ _) (Nat.le_refl _) (by simp) ?_; (case hd => rfl); (case hg => rfl); (case hr => exact gs_); (case hp => exact (Reps.one (show Kd.FK (Kd.slice 22 (Kd.int .u64)) _ _ t620 [.slice Ao32 t620.length co32] from (Kd.qL (Kd.jC (Kd.jN (ok' := (fun k_ => k_ ≠ gb615 ∧ k_ ≠ gb616 ∧ k_ ≠ gb617)) (Kd.jZ (Kd.jZ (Kd.jZ (HO622.out) BK615.out (by decide)) BK616.out (by decide)) BK617.out (by decide)) (fun k_ hk => ⟨hk.1.1.2, ⟨hk.1.2, hk.2⟩⟩))).2.1 (Kd.R_F (Kd.jN (ok' := (fun k_ => k_ ≠ gb615 ∧ k_ ≠ gb616 ∧ k_ ≠ gb617)) (Kd.jZ (Kd.jZ (Kd.jZ (HO622.out) BK615.out (by decide)) BK616.out (by decide)) BK617.out (by decide)) (fun k_ hk => ⟨hk.1.1.2, ⟨hk.1.2, hk.2⟩⟩))))) (Reps.one (show Kd.FK (Kd.slice 22 (Kd.int .u64)) _ _ t623 [.slice Ao33 t623.length co33] from (Kd.qL (Kd.jC (Kd.jN (ok' := (fun k_ => k_ ≠ gb615 ∧ k_ ≠ gb616 ∧ k_ ≠ gb617)) (Kd.jZ (Kd.jZ (Kd.jZ (HO625.out) BK615.out (by decide)) BK616.out (by decide)) BK617.out (by decide)) (fun k_ hk => ⟨hk.1.1.2, ⟨hk.1.2, hk.2⟩⟩))).2.1 (Kd.R_F (Kd.jN (ok' := (fun k_ => k_ ≠ gb615 ∧ k_ ≠ gb616 ∧ k_ ≠ gb617)) (Kd.jZ (Kd.jZ (Kd.jZ (HO625.out) BK615.out (by decide)) BK616.out (by decide)) BK617.out (by decide)) (fun k_ hk => ⟨hk.1.1.2, ⟨hk.1.2, hk.2⟩⟩))))) (Reps.none _ _)))); intro v627 w34 ho35 hb hg_ hnew_; clear hg_ hnew_; (first | rw [← Ny626.out] at ho35 | (simp only [Int.reduceToNat] at ho35; rw [← Ny626.out] at ho35)); have HO628 := jA.mk (Kd.jDT ho35 (jB (bb3_ HB GE615 GE616 GE617))); replace BK615 := bk_ BK615 hb; replace BK616 := bk_ BK616 hb; replace BK617 := bk_ BK617 hb; replace HB := jA.mk (jK (bb3_ HB GE615 GE616 GE617) hb); clear HO622 HO625 hb ho35; obtain ⟨Ao36, co36, eo36⟩ := Kd.jDS HO628.out; subst eo36) | ((with_reducible refine jE (f := 89) rfl ?_); refine jh (some 30) rfl rfl Try.func89 kr_ rfl #[.slice Ao36 y626.length co36] rfl mt_ ?_; (with_reducible refine (vY.calls _ _ y626 true _ ?side1 ?side2 A27.out).mono ?_); (case side1 => repeat (first | exact (Kd.jAq HO628.out).2.2 | (with_reducible refine Kd.zZ ?_ _) | (with_reducible refine Kd.zh ?_ _) | (with_reducible refine Kd.qC ?_))); (case side2 => exact (Kd.jAq HO628.out).2.1); rintro e w' ⟨rfl, ⟨nd, rfl⟩⟩; refine ⟨_, rfl, ?_⟩; (try (rw [qh w34]; generalize hq_ : World.drewN w34 _ = w34; replace HO628 : jA (Kd.N (Kd.slice 22 (Kd.int .u64)) 35 w34 w.heap.size (fun k_ => k_ ≠ gb615 ∧ k_ ≠ gb616 ∧ k_ ≠ gb617) (.slice Ao36 y626.length co36) y626) := ⟨by rw [← hq_]; exact (rN_ HO628)⟩; replace BK615 : jA (w34.heap[gb615]? = some (.cells #[.bool a0_0, .slice A0_1 l0_1.length c0_1, .slice A0_2 l0_2.length c0_2] 44 (0, 0))) := ⟨by rw [← hq_]; exact (kb_ BK615)⟩; replace BK616 : jA (w34.heap[gb616]? = some (.cells #[.bool a1_0, .slice A1_1 l1_1.length c1_1, .slice A1_2 l1_2.length c1_2] 44 (0, 0))) := ⟨by rw [← hq_]; exact (kb_ BK616)⟩; replace BK617 : jA (w34.heap[gb617]? = some (.cells #[.bool false, .slice none 0 0, .slice none 0 0] 44 (0, 0))) := ⟨by rw [← hq_]; exact (kb_ BK617)⟩; replace HB : jA (Below w.heap.size w w34) := ⟨by rw [← hq_]; exact (bb3_ HB GE615 GE616 GE617)⟩; clear hq_)); have hnb37 := NB617_615.out; have hnc37 := NB615_617.out; have hnb38 := NB617_616.out; have hnc38 := NB616_617.out; obtain ⟨hcz39_0, hcz39_1, hcz39_2, hfz39_0, hfz39_1, hfz39_2⟩ := bf3_ BK617))
     refine bodyPost_ret (qI rfl _ _ gb617 44 #[.bool false, .slice none 0 0, .slice none 0 0] (0, 0) _ rfl (by refine pk_ ?_; refine jv (cs := #[.bool false, .slice none 0 0, .slice none 0 0]) ?_ 2 _ rs_; refine pk_ ?_; refine jv (cs := #[.bool false, .slice none 0 0, .slice none 0 0]) ?_ 1 _ rs_; refine pk_ ?_; refine jv (cs := #[.bool false, .slice none 0 0, .slice none 0 0]) ?_ 0 _ rs_; refine pk_ ?_; exact BK617.out) Try.underlying44 rfl kr_) rfl ?_
     exact ⟨_, _, ew_, nl_, nl_, (bb3_ HB GE615 GE616 GE617)⟩
    ·
     replace c28 := Bool.eq_false_iff.mpr c28
     subst c28
     have H1 : ((zP.f kj2 (a0_0 != a1_0) t620 t623).bind fun bt630 => (some (bt630.1, bt630.2.1, bt630.2.2.1, bt630.2.2.2))) = some (r1, r2, r3, r4) := by rw [if_neg (show ¬ (false = true) by decide)] at H; exact H
     clear H
     have H := H1
     clear H1
     replace H := ob_ H
     obtain ⟨⟨t630, t631, t634, t637⟩, A400, H⟩ := H
     try dsimp only at H
     have A40 := jA.mk A400
     clear A400
     simp only [Option.some.injEq, Prod.mk.injEq] at H
     obtain ⟨rfl, rfl, rfl, rfl⟩ := H
     try go_wp2
     have n0_ := jA.mk (vL BK615.out)
     have n1_ := jA.mk (vL BK616.out)
     have n2_ := jA.mk (vL BK617.out)
     have n3_ := jA.mk (zR HB.out)
     clear BK615
     clear BK616
     clear BK617
     clear HB
     have BK615 := n0_
     have BK616 := n1_
     have BK617 := n2_
     have HB := n3_
     clear n0_ n1_ n2_ n3_
     refine jAh (n := 12) (S := fun w' => w'.cell? ⟨gb615, 0, none⟩ = some (.bool a0_0) ∧ w'.cell? ⟨gb615, 1, none⟩ = some (.slice A0_1 l0_1.length c0_1) ∧ w'.cell? ⟨gb615, 2, none⟩ = some (.slice A0_2 l0_2.length c0_2) ∧ w'.cell? ⟨gb616, 0, none⟩ = some (.bool a1_0) ∧ w'.cell? ⟨gb616, 1, none⟩ = some (.slice A1_1 l1_1.length c1_1) ∧ w'.cell? ⟨gb616, 2, none⟩ = some (.slice A1_2 l1_2.length c1_2)) (ds := []) #[false, false, false, false, false, false, false, false, false, false, false, false] kr_ rfl rfl ⟨(jI BK615.out 0).trans rfl, (jI BK615.out 1).trans rfl, (jI BK615.out 2).trans rfl, (jI BK616.out 0).trans rfl, (jI BK616.out 1).trans rfl, (jI BK616.out 2).trans rfl⟩ (fun hHeld => ?_); refine jAP vK.tab3 vK.jJa (fun HT_ HW_ => ?_)
     generalize wc.drew = w41 at BK615 BK616 BK617 HB hHeld ⊢
     refine pu_ 0 (some 17) (ba_ 12 1) (vU HT_.out kr_) ?_
     refine pu_ 2 (some 19) (ba_ 12 5) (vU HT_.out kr_) ?_
     refine pu_ 5 (some 22) (ba_ 12 37) (vU HT_.out kr_) ?_
     refine pu_ 7 (some 24) (ba_ 12 165) (vU HT_.out kr_) ?_
     refine tk6_ 1 (some 18) (ba_ 12 167) (zy HT_.out HW_.out kr_) hHeld ?_
     refine tk6_ 3 (some 20) (ba_ 12 175) (zy HT_.out HW_.out kr_) hHeld ?_
     refine tk6_ 6 (some 23) (ba_ 12 239) (zy HT_.out HW_.out kr_) hHeld ?_
     refine tk6_ 8 (some 25) (ba_ 12 495) (zy HT_.out HW_.out kr_) hHeld ?_
     refine one_ (i := 4) (N := some 21) (ba_ 12 511) rfl rfl (jAD HT_.out kr_) (by decide) (fun K hK => ?_)
     refine jAn Try.func88 kr_ rfl #[.slice A0_1 l0_1.length c0_1, .slice A1_1 l1_1.length c1_1] (by rfl) rfl rfl (by (try simp only [List.map_toArray, List.map_cons, List.map_nil]); first | done | rfl | (simp only [List.length_drop, List.length_take]; rfl)) ?_
     with_reducible refine (jr.calls kj2 _ _ l0_1 _ _ l1_1 t620 _ ?side1 ?side2 ?side3 ?side4 A25.out).mono ?_
     (case side1 => exact cc_ (Kd.jS HR0_1.out HB.out))
     (case side2 => exact HC0_1.out)
     (case side3 => exact cc_ (Kd.jS HR1_1.out HB.out))
     (case side4 => exact HC1_1.out)
     rintro e w42 ⟨v621, rfl, ho0, hb⟩
     refine ⟨_, rfl, ?_⟩
     have n0_ := jA.mk (Kd.jM ho0 (jB (bb3_ HB GE615 GE616 GE617)))
     have n1_ := bk_ BK615 hb
     have n2_ := bk_ BK616 hb
     have n3_ := bk_ BK617 hb
     have n4_ := jA.mk (jK (bb3_ HB GE615 GE616 GE617) hb)
     clear BK615
     clear BK616
     clear BK617
     clear HB
     have HO622 := n0_
     have BK615 := n1_
     have BK616 := n2_
     have BK617 := n3_
     have HB := n4_
     clear n0_ n1_ n2_ n3_ n4_
     (try clear hb)
     (try clear hb2)
     (try clear hk)
     (try clear hi)
     (try clear ho0)
     refine hK.out _ _ ⟨(jI BK615.out 0).trans rfl, (jI BK615.out 1).trans rfl, (jI BK615.out 2).trans rfl, (jI BK616.out 0).trans rfl, (jI BK616.out 1).trans rfl, (jI BK616.out 2).trans rfl⟩ (fun hHeld => ?_)
     clear hK K
     refine qK (a' := ?_) ?_ ?_
     rotate_left
     ·
      show Act.put _ (some 21) _ = _
      simp only [Act.put, ss_, zQ, zn]
      rfl
     refine one_ (i := 9) (N := some 26) (ba_ 12 1023) rfl rfl (jAD HT_.out kr_) (by decide) (fun K hK => ?_)
     refine jAn Try.func88 kr_ rfl #[.slice A0_2 l0_2.length c0_2, .slice A1_2 l1_2.length c1_2] (by rfl) rfl rfl (by (try simp only [List.map_toArray, List.map_cons, List.map_nil]); first | done | rfl | (simp only [List.length_drop, List.length_take]; rfl)) ?_
     with_reducible refine (jr.calls kj2 _ _ l0_2 _ _ l1_2 t623 _ ?side1 ?side2 ?side3 ?side4 A26.out).mono ?_
     (case side1 => exact cc_ (Kd.jS HR0_2.out HB.out))
     (case side2 => exact HC0_2.out)
     (case side3 => exact cc_ (Kd.jS HR1_2.out HB.out))
     (case side4 => exact HC1_2.out)
     rintro e w43 ⟨v624, rfl, ho0, hb⟩
     refine ⟨_, rfl, ?_⟩
     have n0_ := re_ HO622 ho0 hb
     have n1_ := jA.mk (Kd.jM (Kd.jH ho0 (Kd.R_lt (rR_ HO622))) (jB (bb3_ HB GE615 GE616 GE617)))
     have n2_ := bk_ BK615 hb
     have n3_ := bk_ BK616 hb
     have n4_ := bk_ BK617 hb
     have n5_ := jA.mk (jK (bb3_ HB GE615 GE616 GE617) hb)
     clear HO622
     clear BK615
     clear BK616
     clear BK617
     clear HB
     have HO622 := n0_
     have HO625 := n1_
     have BK615 := n2_
     have BK616 := n3_
     have BK617 := n4_
     have HB := n5_
     clear n0_ n1_ n2_ n3_ n4_ n5_
     (try clear hb)
     (try clear hb2)
     (try clear hk)
     (try clear hi)
     (try clear ho0)
     refine hK.out _ _ ⟨(jI BK615.out 0).trans rfl, (jI BK615.out 1).trans rfl, (jI BK615.out 2).trans rfl, (jI BK616.out 0).trans rfl, (jI BK616.out 1).trans rfl, (jI BK616.out 2).trans rfl⟩ (fun hHeld => ?_)
     clear hK K
     refine qK (a' := ?_) ?_ ?_
     rotate_left
     ·
      show Act.put _ (some 26) _ = _
      simp only [Act.put, ss_, zQ, zn]
      rfl
     refine pu_ 10 (some 6) (ba_ 12 2047) (vU HT_.out kr_) ?_
     refine pu_ 11 (some 7) (ba_ 12 4095) (vU HT_.out kr_) ?_
     refine jBK (jAy HT_.out kr_) ?_
     obtain ⟨Ao44, co44, eo44⟩ := Kd.jW HO622.out
     subst eo44
     obtain ⟨Ao45, co45, eo45⟩ := Kd.jW HO625.out
     subst eo45
     try go_wp2_with (first | ((with_reducible refine je (N := 29) rfl ?_); refine Kd.jHX (Kd.slice 22 (Kd.int .u64)) _ 35 ?hg (N' := 29) ?hd (xs := ([t620, t623] : List (List Int))) (inner := [.slice Ao44 t620.length co44, .slice Ao45 t623.length co45]) (ok := (fun k_ => k_ ≠ gb615 ∧ k_ ≠ gb616 ∧ k_ ≠ gb617)) (okp := (fun k_ => k_ ≠ gb615 ∧ k_ ≠ gb616 ∧ k_ ≠ gb617)) ?hr ?hp (fun _ hk => hk) ((show ∀ k_, w43.heap.size ≤ k_ → (fun k_ => k_ ≠ gb615 ∧ k_ ≠ gb616 ∧ k_ ≠ gb617) k_ from fun k_ hk => ⟨Kd.qc (g := gb615) (o := .cells #[.bool a0_0, .slice A0_1 l0_1.length c0_1, .slice A0_2 l0_2.length c0_2] 44 (0, 0)) (kb_ BK615) k_ hk, Kd.qc (g := gb616) (o := .cells #[.bool a1_0, .slice A1_1 l1_1.length c1_1, .slice A1_2 l1_2.length c1_2] 44 (0, 0)) (kb_ BK616) k_ hk, Kd.qc (g := gb617) (o := .cells #[.bool false, .slice none 0 0, .slice none 0 0] 44 (0, 0)) (kb_ BK617) k_ hk⟩) _ (Nat.le_refl _)) (Below.refl _ _) (Nat.le_refl _) (by simp) ?_; (case hd => rfl); (case hg => rfl); (case hr => exact gs_); (case hp => exact (Reps.one (show Kd.FK (Kd.slice 22 (Kd.int .u64)) _ _ t620 [.slice Ao44 t620.length co44] from (Kd.qL (Kd.jC (Kd.jN (ok' := (fun k_ => k_ ≠ gb615 ∧ k_ ≠ gb616 ∧ k_ ≠ gb617)) (Kd.jZ (Kd.jZ (Kd.jZ (HO622.out) BK615.out (by decide)) BK616.out (by decide)) BK617.out (by decide)) (fun k_ hk => ⟨hk.1.1.2, ⟨hk.1.2, hk.2⟩⟩))).2.1 (Kd.R_F (Kd.jN (ok' := (fun k_ => k_ ≠ gb615 ∧ k_ ≠ gb616 ∧ k_ ≠ gb617)) (Kd.jZ (Kd.jZ (Kd.jZ (HO622.out) BK615.out (by decide)) BK616.out (by decide)) BK617.out (by decide)) (fun k_ hk => ⟨hk.1.1.2, ⟨hk.1.2, hk.2⟩⟩))))) (Reps.one (show Kd.FK (Kd.slice 22 (Kd.int .u64)) _ _ t623 [.slice Ao45 t623.length co45] from (Kd.qL (Kd.jC (Kd.jN (ok' := (fun k_ => k_ ≠ gb615 ∧ k_ ≠ gb616 ∧ k_ ≠ gb617)) (Kd.jZ (Kd.jZ (Kd.jZ (HO625.out) BK615.out (by decide)) BK616.out (by decide)) BK617.out (by decide)) (fun k_ hk => ⟨hk.1.1.2, ⟨hk.1.2, hk.2⟩⟩))).2.1 (Kd.R_F (Kd.jN (ok' := (fun k_ => k_ ≠ gb615 ∧ k_ ≠ gb616 ∧ k_ ≠ gb617)) (Kd.jZ (Kd.jZ (Kd.jZ (HO625.out) BK615.out (by decide)) BK616.out (by decide)) BK617.out (by decide)) (fun k_ hk => ⟨hk.1.1.2, ⟨hk.1.2, hk.2⟩⟩))))) (Reps.none _ _)))); intro v627 w46 ho47 hb hg_ hnew_; clear hg_ hnew_; (first | rw [← Ny626.out] at ho47 | (simp only [Int.reduceToNat] at ho47; rw [← Ny626.out] at ho47)); have n0_ := jA.mk (Kd.jDT ho47 (jB (bb3_ HB GE615 GE616 GE617))); have n1_ := bk_ BK615 hb; have n2_ := bk_ BK616 hb; have n3_ := bk_ BK617 hb; have n4_ := jA.mk (jK (bb3_ HB GE615 GE616 GE617) hb); have m0_ := jA.mk (Kd.jAS (rR_ HO622) (Kd.jDw ho47) hb); have m1_ := jA.mk (Kd.jAS (rR_ HO625) (Kd.jDw ho47) hb); clear BK615 BK616 BK617 HB HO622 HO625; have HO628 := n0_; have BK615 := n1_; have BK616 := n2_; have BK617 := n3_; have HB := n4_; clear n0_ n1_ n2_ n3_ n4_; have HO622 := m0_; clear m0_; have HO625 := m1_; clear m1_ hb ho47; obtain ⟨Ao48, co48, eo48⟩ := Kd.jDS HO628.out; subst eo48) | ((with_reducible refine jE (f := 89) rfl ?_); refine jh (some 30) rfl rfl Try.func89 kr_ rfl #[.slice Ao48 y626.length co48] rfl mt_ ?_; (with_reducible refine (vY.calls _ _ y626 false _ ?side1 ?side2 A27.out).mono ?_); (case side1 => repeat (first | exact (Kd.jAq HO628.out).2.2 | (with_reducible refine Kd.zZ ?_ _) | (with_reducible refine Kd.zh ?_ _) | (with_reducible refine Kd.qC ?_))); (case side2 => exact (Kd.jAq HO628.out).2.1); rintro e w' ⟨rfl, ⟨nd, rfl⟩⟩; refine ⟨_, rfl, ?_⟩; (try (rw [qh w46]; generalize hq_ : World.drewN w46 _ = w46; have m0_ := jA.mk (show Kd.R (Kd.int .u64) 22 w46 w.heap.size _ _ _ from (by rw [← hq_]; exact (rR_ HO622))); have m1_ := jA.mk (show Kd.R (Kd.int .u64) 22 w46 w.heap.size _ _ _ from (by rw [← hq_]; exact (rR_ HO625))); replace HO628 : jA (Kd.N (Kd.slice 22 (Kd.int .u64)) 35 w46 w.heap.size (fun k_ => k_ ≠ gb615 ∧ k_ ≠ gb616 ∧ k_ ≠ gb617) (.slice Ao48 y626.length co48) y626) := ⟨by rw [← hq_]; exact (rN_ HO628)⟩; replace BK615 : jA (w46.heap[gb615]? = some (.cells #[.bool a0_0, .slice A0_1 l0_1.length c0_1, .slice A0_2 l0_2.length c0_2] 44 (0, 0))) := ⟨by rw [← hq_]; exact (kb_ BK615)⟩; replace BK616 : jA (w46.heap[gb616]? = some (.cells #[.bool a1_0, .slice A1_1 l1_1.length c1_1, .slice A1_2 l1_2.length c1_2] 44 (0, 0))) := ⟨by rw [← hq_]; exact (kb_ BK616)⟩; replace BK617 : jA (w46.heap[gb617]? = some (.cells #[.bool false, .slice none 0 0, .slice none 0 0] 44 (0, 0))) := ⟨by rw [← hq_]; exact (kb_ BK617)⟩; replace HB : jA (Below w.heap.size w w46) := ⟨by rw [← hq_]; exact (bb3_ HB GE615 GE616 GE617)⟩; clear hq_ HO622; have HO622 := m0_; clear m0_ HO625; have HO625 := m1_; clear m1_)); have hnb49 := NB615_616.out; have hnc49 := NB616_615.out; have hnb50 := NB615_617.out; have hnc50 := NB617_615.out; obtain ⟨hcz51_0, hcz51_1, hcz51_2, hfz51_0, hfz51_1, hfz51_2⟩ := bf3_ BK615; have hnb52 := NB616_617.out; have hnc52 := NB617_616.out; obtain ⟨hcz53_0, hcz53_1, hcz53_2, hfz53_0, hfz53_1, hfz53_2⟩ := bf3_ BK616) | ((with_reducible refine jE (f := 24) rfl ?_); refine jh (some 39) rfl rfl Try.func24 kr_ rfl #[.bool (a0_0 != a1_0), .slice Ao44 t620.length co44, .slice Ao45 t623.length co45] rfl mt_ ?_; (with_reducible refine (zP.calls kj2 (a0_0 != a1_0) _ _ t620 _ _ t623 t630 t631 t634 t637 _ ?side1 ?side2 ?side3 ?side4 A40.out).mono ?_); (case side1 => exact cc_ (Kd.jC HO622.out).2.2); (case side2 => exact (Kd.jC HO622.out).2.1); (case side3 => exact cc_ (Kd.jC HO625.out).2.2); (case side4 => exact (Kd.jC HO625.out).2.1); rintro e w54 ⟨v632, v635, rfl, ho0, ho1, hb⟩; refine ⟨_, rfl, ?_⟩; replace HO628 := jA.mk (Kd.jGa (Kd.jFD (Kd.jFD (Kd.jJo (rN_ HO628) hb) (Kd.jU ho0)) (Kd.jU ho1)) (fun _ h_ => h_.1)); have HO633 := jA.mk (Kd.jM ho0 (jB (bb3_ HB GE615 GE616 GE617))); have HO636 := jA.mk (Kd.jM ho1 (jB (bb3_ HB GE615 GE616 GE617))); replace BK615 := bk_ BK615 hb; replace BK616 := bk_ BK616 hb; replace BK617 := bk_ BK617 hb; replace HB := jA.mk (jK (bb3_ HB GE615 GE616 GE617) hb); obtain ⟨hcz55_0, hcz55_1, hcz55_2, hfz55_0, hfz55_1, hfz55_2⟩ := bf3_ BK617; obtain ⟨Ao56, co56, eo56⟩ := Kd.jW HO633.out; subst eo56; obtain ⟨Ao57, co57, eo57⟩ := Kd.jW HO636.out; subst eo57))
     refine bodyPost_ret (qI rfl _ _ gb617 44 #[.bool t630, .slice Ao56 t631.length co56, .slice Ao57 t634.length co57] (0, 0) _ rfl (by refine pk_ ?_; refine jv (cs := #[.bool t630, .slice Ao56 t631.length co56, .slice none 0 0]) ?_ 2 _ rs_; refine pk_ ?_; refine jv (cs := #[.bool t630, .slice none 0 0, .slice none 0 0]) ?_ 1 _ rs_; refine pk_ ?_; refine jv (cs := #[.bool false, .slice none 0 0, .slice none 0 0]) ?_ 0 _ rs_; refine pk_ ?_; exact BK617.out) Try.underlying44 rfl kr_) rfl ?_
     exact ⟨_, _, ew_, by refine pR_ ?_; exact Kd.jN (Kd.zl (p := ⟨gb617, 2, none⟩) (Kd.zl (p := ⟨gb617, 1, none⟩) (Kd.zl (p := ⟨gb617, 0, none⟩) (Kd.jZ HO633.out BK617.out (by decide)) (fun _ hk => hk.2) (.bool t630)) (fun _ hk => hk.2) (.slice Ao56 t631.length co56)) (fun _ hk => hk.2) (.slice Ao57 t634.length co57)) (fun _ hk => hk.1), by refine pR_ ?_; exact Kd.jN (Kd.zl (p := ⟨gb617, 2, none⟩) (Kd.zl (p := ⟨gb617, 1, none⟩) (Kd.zl (p := ⟨gb617, 0, none⟩) (Kd.jZ HO636.out BK617.out (by decide)) (fun _ hk => hk.2) (.bool t630)) (fun _ hk => hk.2) (.slice Ao56 t631.length co56)) (fun _ hk => hk.2) (.slice Ao57 t634.length co57)) (fun _ hk => hk.1), (bb3_ HB GE615 GE616 GE617)⟩

/-! ### vN: function 55 -/
def vN.j0 : Nat → Bool → Bool → List Int → List Int → Bool → List Int → List Int → Option (Int)
 | 0, _, _, _, _, _, _, _ => none
 | k + 1, x16, x639000, x639001, x639002, x640000, x640001, x640002 => if x16 = true then (some 0) else ((vE.f k x639000 x639001 x639002 x640000 x640001 x640002).bind fun bt642 => ((zX.f k x639000 bt642.1 (!x640000) bt642.2).bind fun bt648 => (if (bt648.2.length : Int) = 0 then (some 0) else (if bt648.1 = true then (some (-1)) else (some 1)))))
def vN.f (k : Nat) (a0_0 : Bool) (l0_1 : List Int) (l0_2 : List Int) (a1_0 : Bool) (l1_1 : List Int) (l1_2 : List Int) : Option (Int) := (vT.f k a0_0 l0_1 l0_2).bind fun t640 => (if t640 = true then ((vT.f k a1_0 l1_1 l1_2).bind fun t641 => (vN.j0 k (!t641) a0_0 l0_1 l0_2 a1_0 l1_1 l1_2)) else (vN.j0 k true a0_0 l0_1 l0_2 a1_0 l1_1 l1_2))
theorem vN.vZ : ∀ k, (∀ y0 y1 y2 y3 y4 y5 y6, LeO (vN.j0 k y0 y1 y2 y3 y4 y5 y6) (vN.j0 (k + 1) y0 y1 y2 y3 y4 y5 y6))
 | 0 => fun _ _ _ _ _ _ _ r h => by simp [vN.j0] at h
 | k + 1 => by
  have ih0 := vN.vZ k
  ·
   intro y0 y1 y2 y3 y4 y5 y6
   unfold vN.j0
   repeat' first
   | (with_reducible exact ih0 _ _ _ _ _ _ _)
   | (with_reducible exact vT.mono _ _ _ _)
   | (with_reducible exact vE.mono _ _ _ _ _ _ _)
   | (with_reducible exact zX.mono _ _ _ _ _)
   | (with_reducible exact LeO.refl _)
   | (with_reducible exact LeO.none _)
   | (with_reducible refine LeO.ite ?_ ?_)
   | (with_reducible refine LeO.bind ?_ (fun _ => ?_))
theorem vN.mono : ∀ a0 a1 a2 a3 a4 a5 k, LeO (vN.f k a0 a1 a2 a3 a4 a5) (vN.f (k + 1) a0 a1 a2 a3 a4 a5) := by
 intro a0 a1 a2 a3 a4 a5 k
 have ih0 := vN.vZ k
 unfold vN.f
 repeat' first
   | (with_reducible exact ih0 _ _ _ _ _ _ _)
   | (with_reducible exact vT.mono _ _ _ _)
   | (with_reducible exact vE.mono _ _ _ _ _ _ _)
   | (with_reducible exact zX.mono _ _ _ _ _)
   | (with_reducible exact LeO.refl _)
   | (with_reducible exact LeO.none _)
   | (with_reducible refine LeO.ite ?_ ?_)
   | (with_reducible refine LeO.bind ?_ (fun _ => ?_))
theorem vN.calls (k : Nat) (a0_0 : Bool) (A0_1 : Option Addr) (c0_1 : Nat) (l0_1 : List Int) (A0_2 : Option Addr) (c0_2 : Nat) (l0_2 : List Int) (a1_0 : Bool) (A1_1 : Option Addr) (c1_1 : Nat) (l1_1 : List Int) (A1_2 : Option Addr) (c1_2 : Nat) (l1_2 : List Int) (r : Int) (w : World) (hr0_1 : Kd.C (Kd.int .u64) w A0_1 l0_1.length l0_1) (hc0_1 : l0_1.length ≤ c0_1) (hr0_2 : Kd.C (Kd.int .u64) w A0_2 l0_2.length l0_2) (hc0_2 : l0_2.length ≤ c0_2) (hr1_1 : Kd.C (Kd.int .u64) w A1_1 l1_1.length l1_1) (hc1_1 : l1_1.length ≤ c1_1) (hr1_2 : Kd.C (Kd.int .u64) w A1_2 l1_2.length l1_2) (hc1_2 : l1_2.length ≤ c1_2) (h : vN.f k a0_0 l0_1 l0_2 a1_0 l1_1 l1_2 = some r) :
  Calls Try.prog 55 #[.agg #[.bool a0_0, .slice A0_1 l0_1.length c0_1, .slice A0_2 l0_2.length c0_2], .agg #[.bool a1_0, .slice A1_1 l1_1.length c1_1, .slice A1_2 l1_2.length c1_2]] w fun e w' => e = .returned (.int .i64 r) ∧ Below w.heap.size w w' := by
 have hu44 := Try.underlying44
 have HR0_1 := jA.mk hr0_1
 have HC0_1 := jA.mk hc0_1
 clear hr0_1 hc0_1
 have HR0_2 := jA.mk hr0_2
 have HC0_2 := jA.mk hc0_2
 clear hr0_2 hc0_2
 have HR1_1 := jA.mk hr1_1
 have HC1_1 := jA.mk hc1_1
 clear hr1_1 hc1_1
 have HR1_2 := jA.mk hr1_2
 have HC1_2 := jA.mk hc1_2
 clear hr1_2 hc1_2
 have HB := jA.mk (Below.refl w.heap.size w)
 have H : ((vT.f k a0_0 l0_1 l0_2).bind fun t640 => (if t640 = true then ((vT.f k a1_0 l1_1 l1_2).bind fun t641 => (vN.j0 k (!t641) a0_0 l0_1 l0_2 a1_0 l1_1 l1_2)) else (vN.j0 k true a0_0 l0_1 l0_2 a1_0 l1_1 l1_2))) = some r := h
 clear h
 have HC3 := jA.mk H
 clear H
 go_enter Try.func55, Try.ntmps55
 go_upto_region 1 with (first | ((with_reducible refine je (N := 2) rfl ?_); refine vQ ?hg (N := 2) ?hd (cs := #[.bool a0_0, .slice A0_1 l0_1.length c0_1, .slice A0_2 l0_2.length c0_2]) (t := 44) ?hr ?_; (case hd => rfl); (case hg => rfl); (case hr => exact gs_); intro gb638 hg w4 hbox hb; have BK638 := jA.mk (hbox); have GW638 := jA.mk ((by rw [hg]; exact (jB (bb_ HB)) : w.heap.size ≤ gb638)); have GE638 := jA.mk ((by rw [hg]; exact (jB (bb_ HB)) : w.heap.size ≤ gb638)); replace HB := bs_ HB hb; clear hb hbox hg) | ((with_reducible refine je (N := 3) rfl ?_); refine vQ ?hg (N := 3) ?hd (cs := #[.bool a1_0, .slice A1_1 l1_1.length c1_1, .slice A1_2 l1_2.length c1_2]) (t := 44) ?hr ?_; (case hd => rfl); (case hg => rfl); (case hr => exact gs_); intro gb639 hg w5 hbox hb; have BK639 := jA.mk (hbox); have GW639 := jA.mk ((by rw [hg]; exact (jB (bb1_ HB GE638)) : w.heap.size ≤ gb639)); have GE639 := jA.mk ((by rw [hg]; exact (jB (bb1_ HB GE638)) : w.heap.size ≤ gb639)); replace HB := jA.mk (jK (bb1_ HB GE638) hb); have NB638_639 := jA.mk ((by rw [hg]; exact Nat.ne_of_lt (vI (g := gb638) (o := .cells #[.bool a0_0, .slice A0_1 l0_1.length c0_1, .slice A0_2 l0_2.length c0_2] 44 (0, 0)) (kb_ BK638)) : gb638 ≠ gb639)); have NB639_638 := jA.mk ((by rw [hg]; exact Nat.ne_of_gt (vI (g := gb638) (o := .cells #[.bool a0_0, .slice A0_1 l0_1.length c0_1, .slice A0_2 l0_2.length c0_2] 44 (0, 0)) (kb_ BK638)) : gb639 ≠ gb638)); replace BK638 := bk_ BK638 hb; clear hb hbox hg))
 (try simp only [Act.put, ss_])
 go_cut [16] (fun v16 wc => ∃ (kq : Nat) (x16_2 : Bool), v16 = .bool x16_2 ∧ jA (vN.j0 kq x16_2 a0_0 l0_1 l0_2 a1_0 l1_1 l1_2 = some r) ∧ jA (kq ≤ k) ∧ jA (wc.heap[gb638]? = some (.cells #[.bool a0_0, (.slice A0_1 l0_1.length c0_1), (.slice A0_2 l0_2.length c0_2)] 44 (0, 0))) ∧ jA (wc.heap[gb639]? = some (.cells #[.bool a1_0, (.slice A1_1 l1_1.length c1_1), (.slice A1_2 l1_2.length c1_2)] 44 (0, 0))) ∧ jA (Below w.heap.size w wc))
 case first =>
  have H := HC3.out
  clear HC3
  replace H := ob_ H
  obtain ⟨t640, A60, H⟩ := H
  try dsimp only at H
  have A6 := jA.mk A60
  clear A60
  by_cases c7 : t640 = true
  ·
   subst c7
   have H1 : ((vT.f k a1_0 l1_1 l1_2).bind fun t641 => (vN.j0 k (!t641) a0_0 l0_1 l0_2 a1_0 l1_1 l1_2)) = some r := by rw [if_pos rfl] at H; exact H
   clear H
   have H := H1
   clear H1
   replace H := ob_ H
   obtain ⟨t641, A80, H⟩ := H
   try dsimp only at H
   have A8 := jA.mk A80
   clear A80
   have H' := jA.mk H
   clear H
   have hnb9 := NB638_639.out
   have hnc9 := NB639_638.out
   have hcz10_0 : w5.cell? ⟨gb638, 0, none⟩ = some (.bool a0_0) := (jI BK638.out 0).trans rfl
   have hcz10_1 : w5.cell? ⟨gb638, 1, none⟩ = some (.slice A0_1 l0_1.length c0_1) := (jI BK638.out 1).trans rfl
   have hcz10_2 : w5.cell? ⟨gb638, 2, none⟩ = some (.slice A0_2 l0_2.length c0_2) := (jI BK638.out 2).trans rfl
   have hfz10_0 := jR BK638.out 0
   have hfz10_1 := jR BK638.out 1
   have hfz10_2 := jR BK638.out 2
   go_wp2_with (first | ((with_reducible refine jE (f := 27) rfl ?_); refine jh (some 10) rfl rfl Try.func27 kr_ rfl #[.agg #[.bool a0_0, .slice A0_1 l0_1.length c0_1, .slice A0_2 l0_2.length c0_2]] rfl mt_ ?_; (with_reducible refine (vT.calls k a0_0 _ _ l0_1 _ _ l0_2 true _ ?side1 ?side2 ?side3 ?side4 A6.out).mono ?_); (case side1 => exact cc_ (Kd.jS HR0_1.out HB.out)); (case side2 => exact HC0_1.out); (case side3 => exact cc_ (Kd.jS HR0_2.out HB.out)); (case side4 => exact HC0_2.out); rintro e w11 ⟨rfl, hb⟩; refine ⟨_, rfl, ?_⟩; replace BK638 := bk_ BK638 hb; replace BK639 := bk_ BK639 hb; replace HB := jA.mk (jK (bb2_ HB GE638 GE639) hb); obtain ⟨hcz12_0, hcz12_1, hcz12_2, hfz12_0, hfz12_1, hfz12_2⟩ := bf3_ BK639) | (go_at_call 27; (with_reducible refine (vT.calls k a1_0 _ _ l1_1 _ _ l1_2 t641 _ ?side1 ?side2 ?side3 ?side4 A8.out).mono ?_); (case side1 => exact cc_ (Kd.jS HR1_1.out HB.out)); (case side2 => exact HC1_1.out); (case side3 => exact cc_ (Kd.jS HR1_2.out HB.out)); (case side4 => exact HC1_2.out); rintro e w13 ⟨rfl, hb⟩; replace BK638 := bk_ BK638 hb; replace BK639 := bk_ BK639 hb; replace HB := jA.mk (jK (bb2_ HB GE638 GE639) hb)))
   go_meet
   case rel => exact ⟨_, (!t641), sd_, H', ⟨by first | omega | exact Nat.le_refl _⟩, ⟨by (with_reducible repeat (first | refine zq ?_ _ | refine vL ?_ | refine zC ?_ _)); exact BK638.out⟩, ⟨by (with_reducible repeat (first | refine zq ?_ _ | refine vL ?_ | refine zC ?_ _)); exact BK639.out⟩, ⟨(bb2_ HB GE638 GE639)⟩⟩
  ·
   replace c7 := Bool.eq_false_iff.mpr c7
   subst c7
   have H1 : (vN.j0 k true a0_0 l0_1 l0_2 a1_0 l1_1 l1_2) = some r := by rw [if_neg (show ¬ (false = true) by decide)] at H; exact H
   clear H
   have H := H1
   clear H1
   have H' := jA.mk H
   clear H
   have hnb14 := NB638_639.out
   have hnc14 := NB639_638.out
   have hcz15_0 : w5.cell? ⟨gb638, 0, none⟩ = some (.bool a0_0) := (jI BK638.out 0).trans rfl
   have hcz15_1 : w5.cell? ⟨gb638, 1, none⟩ = some (.slice A0_1 l0_1.length c0_1) := (jI BK638.out 1).trans rfl
   have hcz15_2 : w5.cell? ⟨gb638, 2, none⟩ = some (.slice A0_2 l0_2.length c0_2) := (jI BK638.out 2).trans rfl
   have hfz15_0 := jR BK638.out 0
   have hfz15_1 := jR BK638.out 1
   have hfz15_2 := jR BK638.out 2
   go_wp2_with (first | ((with_reducible refine jE (f := 27) rfl ?_); refine jh (some 10) rfl rfl Try.func27 kr_ rfl #[.agg #[.bool a0_0, .slice A0_1 l0_1.length c0_1, .slice A0_2 l0_2.length c0_2]] rfl mt_ ?_; (with_reducible refine (vT.calls k a0_0 _ _ l0_1 _ _ l0_2 false _ ?side1 ?side2 ?side3 ?side4 A6.out).mono ?_); (case side1 => exact cc_ (Kd.jS HR0_1.out HB.out)); (case side2 => exact HC0_1.out); (case side3 => exact cc_ (Kd.jS HR0_2.out HB.out)); (case side4 => exact HC0_2.out); rintro e w16 ⟨rfl, hb⟩; refine ⟨_, rfl, ?_⟩; replace BK638 := bk_ BK638 hb; replace BK639 := bk_ BK639 hb; replace HB := jA.mk (jK (bb2_ HB GE638 GE639) hb)))
   go_meet
   case rel => exact ⟨_, (true), sd_, H', ⟨by first | omega | exact Nat.le_refl _⟩, ⟨by (with_reducible repeat (first | refine zq ?_ _ | refine vL ?_ | refine zC ?_ _)); exact BK638.out⟩, ⟨by (with_reducible repeat (first | refine zq ?_ _ | refine vL ?_ | refine zC ?_ _)); exact BK639.out⟩, ⟨(bb2_ HB GE638 GE639)⟩⟩
 case rest =>
  clear HC3
  try clear c1
  try clear c2
  try clear p2
  try clear c5
  try clear c7
  try clear c9
  try clear c14
  try clear hcz10_0
  try clear hcz10_1
  try clear hcz10_2
  try clear hcz12_0
  try clear hcz12_1
  try clear hcz12_2
  try clear hcz15_0
  try clear hcz15_1
  try clear hcz15_2
  try clear hfz10_0
  try clear hfz10_1
  try clear hfz10_2
  try clear hfz12_0
  try clear hfz12_1
  try clear hfz12_2
  try clear hfz15_0
  try clear hfz15_1
  try clear hfz15_2
  obtain ⟨kq, x16_2, rfl, HA, HJ2, BK638, BK639, HB⟩ := hcut
  cases kq with
  | zero => exact absurd HA.out (by simp [vN.j0])
  | succ kj2 =>
   have H := HA.out
   clear HA
   simp only [vN.j0] at H
   by_cases c17 : x16_2 = true
   ·
    subst c17
    have H1 : (some 0) = some r := by rw [if_pos rfl] at H; exact H
    clear H
    have H := H1
    clear H1
    obtain rfl := Option.some.inj H
    go_wp2
    go_ret
    exact ⟨ew_, (bb2_ HB GE638 GE639)⟩
   ·
    replace c17 := Bool.eq_false_iff.mpr c17
    subst c17
    have H1 : ((vE.f kj2 a0_0 l0_1 l0_2 a1_0 l1_1 l1_2).bind fun bt642 => ((zX.f kj2 a0_0 bt642.1 (!a1_0) bt642.2).bind fun bt648 => (if (bt648.2.length : Int) = 0 then (some 0) else (if bt648.1 = true then (some (-1)) else (some 1))))) = some r := by rw [if_neg (show ¬ (false = true) by decide)] at H; exact H
    clear H
    have H := H1
    clear H1
    replace H := ob_ H
    obtain ⟨⟨t642, t645⟩, A180, H⟩ := H
    try dsimp only at H
    have A18 := jA.mk A180
    clear A180
    replace H := ob_ H
    obtain ⟨⟨t648, t649⟩, A190, H⟩ := H
    try dsimp only at H
    have A19 := jA.mk A190
    clear A190
    by_cases c20 : (t649.length : Int) = 0
    ·
     rw [if_pos c20] at H
     have c20b0 := beq_iff_eq.mpr c20
     have c20b1 := bne_eq_false_iff_eq.mpr c20
     clear c20
     obtain rfl := Option.some.inj H
     have hnb21 := NB638_639.out
     have hnc21 := NB639_638.out
     have hcz22_0 : wc.cell? ⟨gb638, 0, none⟩ = some (.bool a0_0) := (jI BK638.out 0).trans rfl
     have hcz22_1 : wc.cell? ⟨gb638, 1, none⟩ = some (.slice A0_1 l0_1.length c0_1) := (jI BK638.out 1).trans rfl
     have hcz22_2 : wc.cell? ⟨gb638, 2, none⟩ = some (.slice A0_2 l0_2.length c0_2) := (jI BK638.out 2).trans rfl
     have hfz22_0 := jR BK638.out 0
     have hfz22_1 := jR BK638.out 1
     have hfz22_2 := jR BK638.out 2
     have hcz23_0 : wc.cell? ⟨gb639, 0, none⟩ = some (.bool a1_0) := (jI BK639.out 0).trans rfl
     have hcz23_1 : wc.cell? ⟨gb639, 1, none⟩ = some (.slice A1_1 l1_1.length c1_1) := (jI BK639.out 1).trans rfl
     have hcz23_2 : wc.cell? ⟨gb639, 2, none⟩ = some (.slice A1_2 l1_2.length c1_2) := (jI BK639.out 2).trans rfl
     have hfz23_0 := jR BK639.out 0
     have hfz23_1 := jR BK639.out 1
     have hfz23_2 := jR BK639.out 2
     go_wp2_with (first | ((with_reducible refine jE (f := 86) rfl ?_); refine jh (some 20) rfl rfl Try.func86 kr_ rfl #[.agg #[.bool a0_0, .slice A0_1 l0_1.length c0_1, .slice A0_2 l0_2.length c0_2], .agg #[.bool a1_0, .slice A1_1 l1_1.length c1_1, .slice A1_2 l1_2.length c1_2]] rfl mt_ ?_; (with_reducible refine (vE.calls kj2 a0_0 _ _ l0_1 _ _ l0_2 a1_0 _ _ l1_1 _ _ l1_2 t642 t645 _ ?side1 ?side2 ?side3 ?side4 ?side5 ?side6 ?side7 ?side8 A18.out).mono ?_); (case side1 => exact cc_ (Kd.jS HR0_1.out HB.out)); (case side2 => exact HC0_1.out); (case side3 => exact cc_ (Kd.jS HR0_2.out HB.out)); (case side4 => exact HC0_2.out); (case side5 => exact cc_ (Kd.jS HR1_1.out HB.out)); (case side6 => exact HC1_1.out); (case side7 => exact cc_ (Kd.jS HR1_2.out HB.out)); (case side8 => exact HC1_2.out); rintro e w24 ⟨v643, v646, rfl, ho0, ho1, hb⟩; refine ⟨_, rfl, ?_⟩; have HO644 := jA.mk (Kd.jM ho0 (jB (bb2_ HB GE638 GE639))); have HO647 := jA.mk (Kd.jM ho1 (jB (bb2_ HB GE638 GE639))); replace BK638 := bk_ BK638 hb; replace BK639 := bk_ BK639 hb; replace HB := jA.mk (jK (bb2_ HB GE638 GE639) hb); obtain ⟨hcz25_0, hcz25_1, hcz25_2, hfz25_0, hfz25_1, hfz25_2⟩ := bf3_ BK638; obtain ⟨hcz26_0, hcz26_1, hcz26_2, hfz26_0, hfz26_1, hfz26_2⟩ := bf3_ BK639; obtain ⟨Ao27, co27, eo27⟩ := Kd.jW HO644.out; subst eo27; obtain ⟨Ao28, co28, eo28⟩ := Kd.jW HO647.out; subst eo28) | ((with_reducible refine jE (f := 87) rfl ?_); refine jh (some 31) rfl rfl Try.func87 kr_ rfl #[.bool a0_0, .slice Ao27 t642.length co27, .bool (!a1_0), .slice Ao28 t645.length co28] rfl mt_ ?_; (with_reducible refine (zX.calls kj2 a0_0 (fun k_ => some k_ = (.slice Ao27 t642.length co27 : Value).ownBlock) _ _ t642 (!a1_0) _ _ t645 t648 t649 _ ?side1 ?side2 ?side3 A19.out).mono ?_); (case side1 => exact Kd.R_V (Kd.jAz rfl (Kd.jZ (Kd.jZ (HO644.out) BK638.out (by decide)) BK639.out (by decide)))); (case side2 => exact cc_ (Kd.jC HO647.out).2.2); (case side3 => exact (Kd.jC HO647.out).2.1); rintro e w29 ⟨v650, rfl, ho0, hb⟩; refine ⟨_, rfl, ?_⟩; have HO651 := jA.mk (Kd.za (Kd.zA (ok' := fun k_ => some k_ ≠ (.slice Ao28 t645.length co28 : Value).ownBlock ∧ k_ ≠ gb638 ∧ k_ ≠ gb639) ho0 (fun k_ hk_ => ⟨Or.elim hk_ (fun hs_ => ((Kd.jZ (Kd.jZ (HO644.out) BK638.out (by decide)) BK639.out (by decide)).1 k_ hs_.symm).1.1) (fun hn_ => (Kd.fresh' (Kd.R_lt (rR_ HO647)) k_ hn_)), Or.elim hk_ (fun hs_ => ((Kd.jZ (Kd.jZ (HO644.out) BK638.out (by decide)) BK639.out (by decide)).1 k_ hs_.symm).1.2) (fun hn_ => (Kd.qc (g := gb638) (o := .cells #[.bool a0_0, .slice A0_1 l0_1.length c0_1, .slice A0_2 l0_2.length c0_2] 44 (0, 0)) (kb_ BK638) k_ hn_)), Or.elim hk_ (fun hs_ => ((Kd.jZ (Kd.jZ (HO644.out) BK638.out (by decide)) BK639.out (by decide)).1 k_ hs_.symm).2) (fun hn_ => (Kd.qc (g := gb639) (o := .cells #[.bool a1_0, .slice A1_1 l1_1.length c1_1, .slice A1_2 l1_2.length c1_2] 44 (0, 0)) (kb_ BK639) k_ hn_))⟩)) (jB (bb2_ HB GE638 GE639))); replace HO644 := ro_ HO644 hb; replace HO647 := ro_ HO647 hb; replace BK638 := bk_ BK638 hb; replace BK639 := bk_ BK639 hb; replace HB := jA.mk (jK (bb2_ HB GE638 GE639) hb); obtain ⟨Ao30, co30, eo30⟩ := Kd.zT HO651.out; subst eo30))
     go_ret
     exact ⟨ew_, (bb2_ HB GE638 GE639)⟩
    ·
     rw [if_neg c20] at H
     have c20b0 := beq_eq_false_iff_ne.mpr c20
     have c20b1 := bne_iff_ne.mpr c20
     have c20b2 : ¬ (t649 = []) := fun h_ => c20 (by rw [h_]; rfl)
     by_cases c31 : t648 = true
     ·
      subst c31
      have H1 : (some (-1)) = some r := by rw [if_pos rfl] at H; exact H
      clear H
      have H := H1
      clear H1
      obtain rfl := Option.some.inj H
      have hnb32 := NB638_639.out
      have hnc32 := NB639_638.out
      have hcz33_0 : wc.cell? ⟨gb638, 0, none⟩ = some (.bool a0_0) := (jI BK638.out 0).trans rfl
      have hcz33_1 : wc.cell? ⟨gb638, 1, none⟩ = some (.slice A0_1 l0_1.length c0_1) := (jI BK638.out 1).trans rfl
      have hcz33_2 : wc.cell? ⟨gb638, 2, none⟩ = some (.slice A0_2 l0_2.length c0_2) := (jI BK638.out 2).trans rfl
      have hfz33_0 := jR BK638.out 0
      have hfz33_1 := jR BK638.out 1
      have hfz33_2 := jR BK638.out 2
      have hcz34_0 : wc.cell? ⟨gb639, 0, none⟩ = some (.bool a1_0) := (jI BK639.out 0).trans rfl
      have hcz34_1 : wc.cell? ⟨gb639, 1, none⟩ = some (.slice A1_1 l1_1.length c1_1) := (jI BK639.out 1).trans rfl
      have hcz34_2 : wc.cell? ⟨gb639, 2, none⟩ = some (.slice A1_2 l1_2.length c1_2) := (jI BK639.out 2).trans rfl
      have hfz34_0 := jR BK639.out 0
      have hfz34_1 := jR BK639.out 1
      have hfz34_2 := jR BK639.out 2
      go_wp2_with (first | ((with_reducible refine jE (f := 86) rfl ?_); refine jh (some 20) rfl rfl Try.func86 kr_ rfl #[.agg #[.bool a0_0, .slice A0_1 l0_1.length c0_1, .slice A0_2 l0_2.length c0_2], .agg #[.bool a1_0, .slice A1_1 l1_1.length c1_1, .slice A1_2 l1_2.length c1_2]] rfl mt_ ?_; (with_reducible refine (vE.calls kj2 a0_0 _ _ l0_1 _ _ l0_2 a1_0 _ _ l1_1 _ _ l1_2 t642 t645 _ ?side1 ?side2 ?side3 ?side4 ?side5 ?side6 ?side7 ?side8 A18.out).mono ?_); (case side1 => exact cc_ (Kd.jS HR0_1.out HB.out)); (case side2 => exact HC0_1.out); (case side3 => exact cc_ (Kd.jS HR0_2.out HB.out)); (case side4 => exact HC0_2.out); (case side5 => exact cc_ (Kd.jS HR1_1.out HB.out)); (case side6 => exact HC1_1.out); (case side7 => exact cc_ (Kd.jS HR1_2.out HB.out)); (case side8 => exact HC1_2.out); rintro e w35 ⟨v643, v646, rfl, ho0, ho1, hb⟩; refine ⟨_, rfl, ?_⟩; have HO644 := jA.mk (Kd.jM ho0 (jB (bb2_ HB GE638 GE639))); have HO647 := jA.mk (Kd.jM ho1 (jB (bb2_ HB GE638 GE639))); replace BK638 := bk_ BK638 hb; replace BK639 := bk_ BK639 hb; replace HB := jA.mk (jK (bb2_ HB GE638 GE639) hb); obtain ⟨hcz36_0, hcz36_1, hcz36_2, hfz36_0, hfz36_1, hfz36_2⟩ := bf3_ BK638; obtain ⟨hcz37_0, hcz37_1, hcz37_2, hfz37_0, hfz37_1, hfz37_2⟩ := bf3_ BK639; obtain ⟨Ao38, co38, eo38⟩ := Kd.jW HO644.out; subst eo38; obtain ⟨Ao39, co39, eo39⟩ := Kd.jW HO647.out; subst eo39) | ((with_reducible refine jE (f := 87) rfl ?_); refine jh (some 31) rfl rfl Try.func87 kr_ rfl #[.bool a0_0, .slice Ao38 t642.length co38, .bool (!a1_0), .slice Ao39 t645.length co39] rfl mt_ ?_; (with_reducible refine (zX.calls kj2 a0_0 (fun k_ => some k_ = (.slice Ao38 t642.length co38 : Value).ownBlock) _ _ t642 (!a1_0) _ _ t645 true t649 _ ?side1 ?side2 ?side3 A19.out).mono ?_); (case side1 => exact Kd.R_V (Kd.jAz rfl (Kd.jZ (Kd.jZ (HO644.out) BK638.out (by decide)) BK639.out (by decide)))); (case side2 => exact cc_ (Kd.jC HO647.out).2.2); (case side3 => exact (Kd.jC HO647.out).2.1); rintro e w40 ⟨v650, rfl, ho0, hb⟩; refine ⟨_, rfl, ?_⟩; have HO651 := jA.mk (Kd.za (Kd.zA (ok' := fun k_ => some k_ ≠ (.slice Ao39 t645.length co39 : Value).ownBlock ∧ k_ ≠ gb638 ∧ k_ ≠ gb639) ho0 (fun k_ hk_ => ⟨Or.elim hk_ (fun hs_ => ((Kd.jZ (Kd.jZ (HO644.out) BK638.out (by decide)) BK639.out (by decide)).1 k_ hs_.symm).1.1) (fun hn_ => (Kd.fresh' (Kd.R_lt (rR_ HO647)) k_ hn_)), Or.elim hk_ (fun hs_ => ((Kd.jZ (Kd.jZ (HO644.out) BK638.out (by decide)) BK639.out (by decide)).1 k_ hs_.symm).1.2) (fun hn_ => (Kd.qc (g := gb638) (o := .cells #[.bool a0_0, .slice A0_1 l0_1.length c0_1, .slice A0_2 l0_2.length c0_2] 44 (0, 0)) (kb_ BK638) k_ hn_)), Or.elim hk_ (fun hs_ => ((Kd.jZ (Kd.jZ (HO644.out) BK638.out (by decide)) BK639.out (by decide)).1 k_ hs_.symm).2) (fun hn_ => (Kd.qc (g := gb639) (o := .cells #[.bool a1_0, .slice A1_1 l1_1.length c1_1, .slice A1_2 l1_2.length c1_2] 44 (0, 0)) (kb_ BK639) k_ hn_))⟩)) (jB (bb2_ HB GE638 GE639))); replace HO644 := ro_ HO644 hb; replace HO647 := ro_ HO647 hb; replace BK638 := bk_ BK638 hb; replace BK639 := bk_ BK639 hb; replace HB := jA.mk (jK (bb2_ HB GE638 GE639) hb); obtain ⟨Ao41, co41, eo41⟩ := Kd.zT HO651.out; subst eo41))
      go_ret
      exact ⟨ew_, (bb2_ HB GE638 GE639)⟩
     ·
      replace c31 := Bool.eq_false_iff.mpr c31
      subst c31
      have H1 : (some 1) = some r := by rw [if_neg (show ¬ (false = true) by decide)] at H; exact H
      clear H
      have H := H1
      clear H1
      obtain rfl := Option.some.inj H
      have hnb42 := NB638_639.out
      have hnc42 := NB639_638.out
      have hcz43_0 : wc.cell? ⟨gb638, 0, none⟩ = some (.bool a0_0) := (jI BK638.out 0).trans rfl
      have hcz43_1 : wc.cell? ⟨gb638, 1, none⟩ = some (.slice A0_1 l0_1.length c0_1) := (jI BK638.out 1).trans rfl
      have hcz43_2 : wc.cell? ⟨gb638, 2, none⟩ = some (.slice A0_2 l0_2.length c0_2) := (jI BK638.out 2).trans rfl
      have hfz43_0 := jR BK638.out 0
      have hfz43_1 := jR BK638.out 1
      have hfz43_2 := jR BK638.out 2
      have hcz44_0 : wc.cell? ⟨gb639, 0, none⟩ = some (.bool a1_0) := (jI BK639.out 0).trans rfl
      have hcz44_1 : wc.cell? ⟨gb639, 1, none⟩ = some (.slice A1_1 l1_1.length c1_1) := (jI BK639.out 1).trans rfl
      have hcz44_2 : wc.cell? ⟨gb639, 2, none⟩ = some (.slice A1_2 l1_2.length c1_2) := (jI BK639.out 2).trans rfl
      have hfz44_0 := jR BK639.out 0
      have hfz44_1 := jR BK639.out 1
      have hfz44_2 := jR BK639.out 2
      go_wp2_with (first | ((with_reducible refine jE (f := 86) rfl ?_); refine jh (some 20) rfl rfl Try.func86 kr_ rfl #[.agg #[.bool a0_0, .slice A0_1 l0_1.length c0_1, .slice A0_2 l0_2.length c0_2], .agg #[.bool a1_0, .slice A1_1 l1_1.length c1_1, .slice A1_2 l1_2.length c1_2]] rfl mt_ ?_; (with_reducible refine (vE.calls kj2 a0_0 _ _ l0_1 _ _ l0_2 a1_0 _ _ l1_1 _ _ l1_2 t642 t645 _ ?side1 ?side2 ?side3 ?side4 ?side5 ?side6 ?side7 ?side8 A18.out).mono ?_); (case side1 => exact cc_ (Kd.jS HR0_1.out HB.out)); (case side2 => exact HC0_1.out); (case side3 => exact cc_ (Kd.jS HR0_2.out HB.out)); (case side4 => exact HC0_2.out); (case side5 => exact cc_ (Kd.jS HR1_1.out HB.out)); (case side6 => exact HC1_1.out); (case side7 => exact cc_ (Kd.jS HR1_2.out HB.out)); (case side8 => exact HC1_2.out); rintro e w45 ⟨v643, v646, rfl, ho0, ho1, hb⟩; refine ⟨_, rfl, ?_⟩; have HO644 := jA.mk (Kd.jM ho0 (jB (bb2_ HB GE638 GE639))); have HO647 := jA.mk (Kd.jM ho1 (jB (bb2_ HB GE638 GE639))); replace BK638 := bk_ BK638 hb; replace BK639 := bk_ BK639 hb; replace HB := jA.mk (jK (bb2_ HB GE638 GE639) hb); obtain ⟨hcz46_0, hcz46_1, hcz46_2, hfz46_0, hfz46_1, hfz46_2⟩ := bf3_ BK638; obtain ⟨hcz47_0, hcz47_1, hcz47_2, hfz47_0, hfz47_1, hfz47_2⟩ := bf3_ BK639; obtain ⟨Ao48, co48, eo48⟩ := Kd.jW HO644.out; subst eo48; obtain ⟨Ao49, co49, eo49⟩ := Kd.jW HO647.out; subst eo49) | ((with_reducible refine jE (f := 87) rfl ?_); refine jh (some 31) rfl rfl Try.func87 kr_ rfl #[.bool a0_0, .slice Ao48 t642.length co48, .bool (!a1_0), .slice Ao49 t645.length co49] rfl mt_ ?_; (with_reducible refine (zX.calls kj2 a0_0 (fun k_ => some k_ = (.slice Ao48 t642.length co48 : Value).ownBlock) _ _ t642 (!a1_0) _ _ t645 false t649 _ ?side1 ?side2 ?side3 A19.out).mono ?_); (case side1 => exact Kd.R_V (Kd.jAz rfl (Kd.jZ (Kd.jZ (HO644.out) BK638.out (by decide)) BK639.out (by decide)))); (case side2 => exact cc_ (Kd.jC HO647.out).2.2); (case side3 => exact (Kd.jC HO647.out).2.1); rintro e w50 ⟨v650, rfl, ho0, hb⟩; refine ⟨_, rfl, ?_⟩; have HO651 := jA.mk (Kd.za (Kd.zA (ok' := fun k_ => some k_ ≠ (.slice Ao49 t645.length co49 : Value).ownBlock ∧ k_ ≠ gb638 ∧ k_ ≠ gb639) ho0 (fun k_ hk_ => ⟨Or.elim hk_ (fun hs_ => ((Kd.jZ (Kd.jZ (HO644.out) BK638.out (by decide)) BK639.out (by decide)).1 k_ hs_.symm).1.1) (fun hn_ => (Kd.fresh' (Kd.R_lt (rR_ HO647)) k_ hn_)), Or.elim hk_ (fun hs_ => ((Kd.jZ (Kd.jZ (HO644.out) BK638.out (by decide)) BK639.out (by decide)).1 k_ hs_.symm).1.2) (fun hn_ => (Kd.qc (g := gb638) (o := .cells #[.bool a0_0, .slice A0_1 l0_1.length c0_1, .slice A0_2 l0_2.length c0_2] 44 (0, 0)) (kb_ BK638) k_ hn_)), Or.elim hk_ (fun hs_ => ((Kd.jZ (Kd.jZ (HO644.out) BK638.out (by decide)) BK639.out (by decide)).1 k_ hs_.symm).2) (fun hn_ => (Kd.qc (g := gb639) (o := .cells #[.bool a1_0, .slice A1_1 l1_1.length c1_1, .slice A1_2 l1_2.length c1_2] 44 (0, 0)) (kb_ BK639) k_ hn_))⟩)) (jB (bb2_ HB GE638 GE639))); replace HO644 := ro_ HO644 hb; replace HO647 := ro_ HO647 hb; replace BK638 := bk_ BK638 hb; replace BK639 := bk_ BK639 hb; replace HB := jA.mk (jK (bb2_ HB GE638 GE639) hb); obtain ⟨Ao51, co51, eo51⟩ := Kd.zT HO651.out; subst eo51))
      go_ret
      exact ⟨ew_, (bb2_ HB GE638 GE639)⟩

end Go.Proofs.Ytijgeonhbmgikaa.PORatioOrder
