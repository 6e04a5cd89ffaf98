-- printed (pr.py)
import Derived.Test.YtijgeonhbmgikaaPORatioFieldx10
namespace Go.Proofs.Ytijgeonhbmgikaa.PORatioField
open Go.RowKit Go.Proofs.YtijgeonhbmgikaaN Go.Proofs.YtijgeonhbmgikaaW.PrintWords Go.Proofs.YtijgeonhbmgikaaW.PrintLast Go.Proofs.YtijgeonhbmgikaaW.PrintMore
attribute [local go_sem] qH qF qg qd zq zo qG qE
set_option maxHeartbeats 8000000
set_option maxRecDepth 100000
set_option linter.unusedVariables false
set_option linter.unusedSimpArgs false
def vG.j0 : Nat → Bool → Bool → List Int → List Int → Bool → List Int → List Int → Option (Bool × List Int × List Int × Int)
 | 0, _, _, _, _, _, _, _ => none
 | k + 1, x15, x628000, x628001, x628002, x629000, x629001, x629002 => if x15 = true then (some (false, ([] : List Int), ([] : List Int), 1)) else ((jl.f k x628001 x629001).bind fun t632 => ((jl.f k x628002 x629002).bind fun t635 => ((vR.f (([t632, t635] : List (List Int)))).bind fun t641 => (if t641 = true then (some (false, ([] : List Int), ([] : List Int), 21)) else ((zm.f k (x628000 != x629000) t632 t635).bind fun bt642 => (some (bt642.1, bt642.2.1, bt642.2.2.1, bt642.2.2.2)))))))
def vG.f (k : Nat) (a0_0 : Bool) (l0_1 : List Int) (l0_2 : List Int) (a1_0 : Bool) (l1_1 : List Int) (l1_2 : List Int) : Option (Bool × List Int × List Int × Int) := (vV.f k a0_0 l0_1 l0_2).bind fun t630 => (if t630 = true then ((vV.f k a1_0 l1_1 l1_2).bind fun t631 => (vG.j0 k (!t631) a0_0 l0_1 l0_2 a1_0 l1_1 l1_2)) else (vG.j0 k true a0_0 l0_1 l0_2 a1_0 l1_1 l1_2))
theorem vG.vS : ∀ k, (∀ y0 y1 y2 y3 y4 y5 y6, LeO (vG.j0 k y0 y1 y2 y3 y4 y5 y6) (vG.j0 (k + 1) y0 y1 y2 y3 y4 y5 y6))
 | 0 => fun _ _ _ _ _ _ _ r h => by simp [vG.j0] at h
 | k + 1 => by
  have ih0 := vG.vS k
  ·
   intro y0 y1 y2 y3 y4 y5 y6
   unfold vG.j0
   repeat' first
   | (with_reducible exact ih0 _ _ _ _ _ _ _)
   | (with_reducible exact jl.mono _ _ _)
   | (with_reducible exact zm.mono _ _ _ _)
   | (with_reducible exact vV.mono _ _ _ _)
   | (with_reducible exact LeO.refl _)
   | (with_reducible exact LeO.none _)
   | (with_reducible refine LeO.ite ?_ ?_)
   | (with_reducible refine LeO.bind ?_ (fun _ => ?_))
theorem vG.mono : ∀ a0 a1 a2 a3 a4 a5 k, LeO (vG.f k a0 a1 a2 a3 a4 a5) (vG.f (k + 1) a0 a1 a2 a3 a4 a5) := by
 intro a0 a1 a2 a3 a4 a5 k
 have ih0 := vG.vS k
 unfold vG.f
 repeat' first
   | (with_reducible exact ih0 _ _ _ _ _ _ _)
   | (with_reducible exact jl.mono _ _ _)
   | (with_reducible exact zm.mono _ _ _ _)
   | (with_reducible exact vV.mono _ _ _ _)
   | (with_reducible exact LeO.refl _)
   | (with_reducible exact LeO.none _)
   | (with_reducible refine LeO.ite ?_ ?_)
   | (with_reducible refine LeO.bind ?_ (fun _ => ?_))
def vG.T3 : Bool × List (List Nat × List Nat) := (true, [([], []), ([0], [0]), ([], []), ([2], [2]), ([1, 3], [1, 3]), ([], []), ([5], [5]), ([], []), ([7], [7]), ([6, 8, 4], [6, 8]), ([4, 9, 0, 1, 2, 3, 4], [4]), ([9, 10, 0, 1, 2, 3, 4, 5, 6, 7, 8, 9, 10], [9])])
def vG.B3 : List Nat := [0, 1, 0, 4, 15, 0, 32, 0, 128, 511, 1023, 2047]
theorem vG.tab3 : rtab .any (opsOf Try.f51 3) = vG.T3 := by kernel_rfl
theorem vG.jJx : jAL vG.T3.2 vG.B3 = true := by kernel_rfl
theorem vG.calls (k : Nat) (a0_0 : Bool) (A0_1 : Option Addr) (c0_1 : Nat) (l0_1 : List Int) (A0_2 : Option Addr) (c0_2 : Nat) (l0_2 : List Int) (a1_0 : Bool) (A1_1 : Option Addr) (c1_1 : Nat) (l1_1 : List Int) (A1_2 : Option Addr) (c1_2 : Nat) (l1_2 : List Int) (r1 : Bool) (r2 : List Int) (r3 : List Int) (r4 : Int) (w : World) (hr0_1 : Kd.C (Kd.int .u64) w A0_1 l0_1.length l0_1) (hc0_1 : l0_1.length ≤ c0_1) (hr0_2 : Kd.C (Kd.int .u64) w A0_2 l0_2.length l0_2) (hc0_2 : l0_2.length ≤ c0_2) (hr1_1 : Kd.C (Kd.int .u64) w A1_1 l1_1.length l1_1) (hc1_1 : l1_1.length ≤ c1_1) (hr1_2 : Kd.C (Kd.int .u64) w A1_2 l1_2.length l1_2) (hc1_2 : l1_2.length ≤ c1_2) (h : vG.f k a0_0 l0_1 l0_2 a1_0 l1_1 l1_2 = some (r1, r2, r3, r4)) :
  Calls Try.prog 51 #[.agg #[.bool a0_0, .slice A0_1 l0_1.length c0_1, .slice A0_2 l0_2.length c0_2], .agg #[.bool a1_0, .slice A1_1 l1_1.length c1_1, .slice A1_2 l1_2.length c1_2]] w fun e w' => ∃ v1_ v2_ : Value, e = .returned (.tuple #[.agg #[.bool r1, v1_, v2_], .int .i64 r4]) ∧ Kd.R (Kd.int .u64) 22 w' w.heap.size (fun k_ => some k_ ≠ (v2_ : Value).ownBlock) v1_ r2 ∧ Kd.R (Kd.int .u64) 22 w' w.heap.size (fun k_ => some k_ ≠ (v1_ : Value).ownBlock) v2_ r3 ∧ Below w.heap.size w w' := by
 have hu44 := Try.underlying44
 have HR0_1 := jA.mk hr0_1
 have HC0_1 := jA.mk hc0_1
 clear hr0_1 hc0_1
 have HR0_2 := jA.mk hr0_2
 have HC0_2 := jA.mk hc0_2
 clear hr0_2 hc0_2
 have HR1_1 := jA.mk hr1_1
 have HC1_1 := jA.mk hc1_1
 clear hr1_1 hc1_1
 have HR1_2 := jA.mk hr1_2
 have HC1_2 := jA.mk hc1_2
 clear hr1_2 hc1_2
 have HB := jA.mk (Below.refl w.heap.size w)
 have H : ((vV.f k a0_0 l0_1 l0_2).bind fun t630 => (if t630 = true then ((vV.f k a1_0 l1_1 l1_2).bind fun t631 => (vG.j0 k (!t631) a0_0 l0_1 l0_2 a1_0 l1_1 l1_2)) else (vG.j0 k true a0_0 l0_1 l0_2 a1_0 l1_1 l1_2))) = some (r1, r2, r3, r4) := h
 clear h
 have HC3 := jA.mk H
 clear H
 go_enter Try.func51, Try.ntmps51
 go_upto_region 1 with (first | ((with_reducible refine jX (N := 2) rfl ?_); refine bx_ 2 #[.bool a0_0, .slice A0_1 l0_1.length c0_1, .slice A0_2 l0_2.length c0_2] 44 ?_; intro gb627 hg w4 hbox hb; have BK627 := jA.mk (hbox); have GW627 := jA.mk ((by rw [hg]; exact (jC (bb_ HB)) : w.heap.size ≤ gb627)); have GE627 := GW627; replace HB := bs_ HB hb; clear hb hbox hg) | ((with_reducible refine jX (N := 3) rfl ?_); refine bx_ 3 #[.bool a1_0, .slice A1_1 l1_1.length c1_1, .slice A1_2 l1_2.length c1_2] 44 ?_; intro gb628 hg w5 hbox hb; have BK628 := jA.mk (hbox); have GW628 := jA.mk ((by rw [hg]; exact (jC (bb1_ HB GE627)) : w.heap.size ≤ gb628)); have GE628 := GW628; replace HB := jA.mk (jI (bb1_ HB GE627) hb); have NB627_628 := jA.mk ((by rw [hg]; exact nlt_ BK627 : gb627 ≠ gb628)); have NB628_627 := jA.mk ((by rw [hg]; exact ngt_ BK627 : gb628 ≠ gb627)); replace BK627 := bk_ BK627 hb; clear hb hbox hg) | ((with_reducible refine jX (N := 4) rfl ?_); refine bx_ 4 #[.bool false, .slice none 0 0, .slice none 0 0] 44 ?_; intro gb629 hg w6 hbox hb; have BK629 := jA.mk (hbox); have GW629 := jA.mk ((by rw [hg]; exact (jC (bb2_ HB GE627 GE628)) : w.heap.size ≤ gb629)); have GE629 := GW629; replace HB := jA.mk (jI (bb2_ HB GE627 GE628) hb); have NB627_629 := jA.mk ((by rw [hg]; exact nlt_ BK627 : gb627 ≠ gb629)); have NB629_627 := jA.mk ((by rw [hg]; exact ngt_ BK627 : gb629 ≠ gb627)); replace BK627 := bk_ BK627 hb; have NB628_629 := jA.mk ((by rw [hg]; exact nlt_ BK628 : gb628 ≠ gb629)); have NB629_628 := jA.mk ((by rw [hg]; exact ngt_ BK628 : gb629 ≠ gb628)); replace BK628 := bk_ BK628 hb; clear hb hbox hg))
 (try simp only [Act.put, ss_])
 go_cut [15] (fun v15 wc => ∃ (kq : Nat) (x15_2 : Bool), v15 = .bool x15_2 ∧ jA (vG.j0 kq x15_2 a0_0 l0_1 l0_2 a1_0 l1_1 l1_2 = some (r1, r2, r3, r4)) ∧ jA (kq ≤ k) ∧ jA (wc.heap[gb627]? = some (.cells #[.bool a0_0, (.slice A0_1 l0_1.length c0_1), (.slice A0_2 l0_2.length c0_2)] 44 (0, 0))) ∧ jA (wc.heap[gb628]? = some (.cells #[.bool a1_0, (.slice A1_1 l1_1.length c1_1), (.slice A1_2 l1_2.length c1_2)] 44 (0, 0))) ∧ jA (wc.heap[gb629]? = some (.cells #[.bool false, (.slice none 0 0), (.slice none 0 0)] 44 (0, 0))) ∧ jA (Below w.heap.size w wc))
 case first =>
  have H := HC3.out
  clear HC3
  obtain ⟨t630, A7, H⟩ := oc_ H
  try dsimp only at H
  by_cases c8 : t630 = true
  ·
   subst c8
   replace H := ip_ H
   obtain ⟨t631, A9, H⟩ := oc_ H
   try dsimp only at H
   have H' := jA.mk H
   clear H
   have hnb10 := NB627_628.out
   have hnc10 := NB628_627.out
   have hnb11 := NB627_629.out
   have hnc11 := NB629_627.out
   have hcz12_0 : w6.cell? ⟨gb627, 0, none⟩ = some (.bool a0_0) := (jB BK627.out 0).trans rfl
   have hcz12_1 : w6.cell? ⟨gb627, 1, none⟩ = some (.slice A0_1 l0_1.length c0_1) := (jB BK627.out 1).trans rfl
   have hcz12_2 : w6.cell? ⟨gb627, 2, none⟩ = some (.slice A0_2 l0_2.length c0_2) := (jB BK627.out 2).trans rfl
   have hfz12_0 := jg BK627.out 0
   have hfz12_1 := jg BK627.out 1
   have hfz12_2 := jg BK627.out 2
   go_wp2_with (first | ((with_reducible refine jH (f := 27) rfl ?_); refine gl_ (some 9) Try.func27 #[.agg #[.bool a0_0, .slice A0_1 l0_1.length c0_1, .slice A0_2 l0_2.length c0_2]] ?_; (with_reducible refine (vV.calls k a0_0 _ _ l0_1 _ _ l0_2 true _ ?side1 ?side2 ?side3 ?side4 A7.out).mono ?_); (case side1 => exact cb_ HR0_1 HB); (case side2 => exact HC0_1.out); (case side3 => exact cb_ HR0_2 HB); (case side4 => exact HC0_2.out); rintro e w13 ⟨rfl, hb⟩; refine ⟨_, rfl, ?_⟩; replace BK627 := bk_ BK627 hb; replace BK628 := bk_ BK628 hb; replace BK629 := bk_ BK629 hb; replace HB := jA.mk (jI (bb3_ HB GE627 GE628 GE629) hb); have hnb14 := NB628_629.out; have hnc14 := NB629_628.out; obtain ⟨hcz15_0, hcz15_1, hcz15_2, hfz15_0, hfz15_1, hfz15_2⟩ := bf3_ BK628) | (go_at_call 27; (with_reducible refine (vV.calls k a1_0 _ _ l1_1 _ _ l1_2 t631 _ ?side1 ?side2 ?side3 ?side4 A9.out).mono ?_); (case side1 => exact cb_ HR1_1 HB); (case side2 => exact HC1_1.out); (case side3 => exact cb_ HR1_2 HB); (case side4 => exact HC1_2.out); rintro e w16 ⟨rfl, hb⟩; replace BK627 := bk_ BK627 hb; replace BK628 := bk_ BK628 hb; replace BK629 := bk_ BK629 hb; replace HB := jA.mk (jI (bb3_ HB GE627 GE628 GE629) hb)))
   go_meet
   case rel => exact ⟨_, (!t631), sd_, H', ⟨by first | omega | exact Nat.le_refl _⟩, ⟨by (with_reducible repeat (first | refine zw ?_ _ | refine vF ?_ | refine vH ?_ _)); exact BK627.out⟩, ⟨by (with_reducible repeat (first | refine zw ?_ _ | refine vF ?_ | refine vH ?_ _)); exact BK628.out⟩, ⟨by (with_reducible repeat (first | refine zw ?_ _ | refine vF ?_ | refine vH ?_ _)); exact BK629.out⟩, ⟨(bb3_ HB GE627 GE628 GE629)⟩⟩
  ·
   replace c8 := Bool.eq_false_iff.mpr c8
   subst c8
   replace H := in_ H
   have H' := jA.mk H
   clear H
   have hnb17 := NB627_628.out
   have hnc17 := NB628_627.out
   have hnb18 := NB627_629.out
   have hnc18 := NB629_627.out
   have hcz19_0 : w6.cell? ⟨gb627, 0, none⟩ = some (.bool a0_0) := (jB BK627.out 0).trans rfl
   have hcz19_1 : w6.cell? ⟨gb627, 1, none⟩ = some (.slice A0_1 l0_1.length c0_1) := (jB BK627.out 1).trans rfl
   have hcz19_2 : w6.cell? ⟨gb627, 2, none⟩ = some (.slice A0_2 l0_2.length c0_2) := (jB BK627.out 2).trans rfl
   have hfz19_0 := jg BK627.out 0
   have hfz19_1 := jg BK627.out 1
   have hfz19_2 := jg BK627.out 2
   go_wp2_with (first | ((with_reducible refine jH (f := 27) rfl ?_); refine gl_ (some 9) Try.func27 #[.agg #[.bool a0_0, .slice A0_1 l0_1.length c0_1, .slice A0_2 l0_2.length c0_2]] ?_; (with_reducible refine (vV.calls k a0_0 _ _ l0_1 _ _ l0_2 false _ ?side1 ?side2 ?side3 ?side4 A7.out).mono ?_); (case side1 => exact cb_ HR0_1 HB); (case side2 => exact HC0_1.out); (case side3 => exact cb_ HR0_2 HB); (case side4 => exact HC0_2.out); rintro e w20 ⟨rfl, hb⟩; refine ⟨_, rfl, ?_⟩; replace BK627 := bk_ BK627 hb; replace BK628 := bk_ BK628 hb; replace BK629 := bk_ BK629 hb; replace HB := jA.mk (jI (bb3_ HB GE627 GE628 GE629) hb)))
   go_meet
   case rel => exact ⟨_, (true), sd_, H', ⟨by first | omega | exact Nat.le_refl _⟩, ⟨by (with_reducible repeat (first | refine zw ?_ _ | refine vF ?_ | refine vH ?_ _)); exact BK627.out⟩, ⟨by (with_reducible repeat (first | refine zw ?_ _ | refine vF ?_ | refine vH ?_ _)); exact BK628.out⟩, ⟨by (with_reducible repeat (first | refine zw ?_ _ | refine vF ?_ | refine vH ?_ _)); exact BK629.out⟩, ⟨(bb3_ HB GE627 GE628 GE629)⟩⟩
 case rest =>
  clear HC3
  try clear c1
  try clear c2
  try clear p2
  try clear c5
  try clear c8
  try clear c10
  try clear c11
  try clear c14
  try clear c17
  try clear c18
  try clear hcz12_0
  try clear hcz12_1
  try clear hcz12_2
  try clear hcz15_0
  try clear hcz15_1
  try clear hcz15_2
  try clear hcz19_0
  try clear hcz19_1
  try clear hcz19_2
  try clear hfz12_0
  try clear hfz12_1
  try clear hfz12_2
  try clear hfz15_0
  try clear hfz15_1
  try clear hfz15_2
  try clear hfz19_0
  try clear hfz19_1
  try clear hfz19_2
  obtain ⟨kq, x15_2, rfl, HA, HJ2, BK627, BK628, BK629, HB⟩ := hcut
  cases kq with
  | zero => exact absurd HA.out (by simp [vG.j0])
  | succ kj2 =>
   have H := HA.out
   clear HA
   simp only [vG.j0] at H
   by_cases c21 : x15_2 = true
   ·
    subst c21
    replace H := ip_ H
    simp only [Option.some.injEq, Prod.mk.injEq] at H
    obtain ⟨rfl, rfl, rfl, rfl⟩ := H
    have hnb22 := NB629_627.out
    have hnc22 := NB627_629.out
    have hnb23 := NB629_628.out
    have hnc23 := NB628_629.out
    have hcz24_0 : wc.cell? ⟨gb629, 0, none⟩ = some (.bool false) := (jB BK629.out 0).trans rfl
    have hcz24_1 : wc.cell? ⟨gb629, 1, none⟩ = some (.slice none 0 0) := (jB BK629.out 1).trans rfl
    have hcz24_2 : wc.cell? ⟨gb629, 2, none⟩ = some (.slice none 0 0) := (jB BK629.out 2).trans rfl
    have hfz24_0 := jg BK629.out 0
    have hfz24_1 := jg BK629.out 1
    have hfz24_2 := jg BK629.out 2
    go_wp2
    refine bodyPost_ret (zn rfl _ _ gb629 44 #[.bool false, .slice none 0 0, .slice none 0 0] (0, 0) _ rfl (by refine pk_ ?_; refine jm (cs := #[.bool false, .slice none 0 0, .slice none 0 0]) ?_ 2 _ rs_; refine pk_ ?_; refine jm (cs := #[.bool false, .slice none 0 0, .slice none 0 0]) ?_ 1 _ rs_; refine pk_ ?_; refine jm (cs := #[.bool false, .slice none 0 0, .slice none 0 0]) ?_ 0 _ rs_; refine pk_ ?_; exact BK629.out) Try.underlying44 rfl kr_) rfl ?_
    exact ⟨_, _, ew_, nl_, nl_, (bb3_ HB GE627 GE628 GE629)⟩
   ·
    replace c21 := Bool.eq_false_iff.mpr c21
    subst c21
    replace H := in_ H
    obtain ⟨t632, A25, H⟩ := oc_ H
    try dsimp only at H
    obtain ⟨t635, A26, H⟩ := oc_ H
    try dsimp only at H
    obtain ⟨y638, hy638⟩ : ∃ y_ : List (List Int), y_ = (([t632, t635] : List (List Int))) := ⟨_, rfl⟩
    replace H : ((vR.f y638).bind fun t641 => (if t641 = true then (some (false, ([] : List Int), ([] : List Int), 21)) else ((zm.f kj2 (a0_0 != a1_0) t632 t635).bind fun bt642 => (some (bt642.1, bt642.2.1, bt642.2.2.1, bt642.2.2.2))))) = some (r1, r2, r3, r4) := by first | (rw [hy638]; with_reducible exact H) | (have H2_ := (Option.bind_some _ _).symm.trans H; rw [hy638]; with_reducible exact H2_) | (with_reducible exact hs_ H) | with_reducible exact H | (rw [hy638]; exact H) | exact H
    have Ny638 := jA.mk hy638
    clear hy638
    obtain ⟨t641, A27, H⟩ := oc_ H
    try dsimp only at H
    by_cases c28 : t641 = true
    ·
     subst c28
     replace H := ip_ H
     simp only [Option.some.injEq, Prod.mk.injEq] at H
     obtain ⟨rfl, rfl, rfl, rfl⟩ := H
     try go_wp2
     have n0_ := jA.mk (vF BK627.out)
     have n1_ := jA.mk (vF BK628.out)
     have n2_ := jA.mk (vF BK629.out)
     have n3_ := jA.mk (zY HB.out)
     clear BK627
     clear BK628
     clear BK629
     clear HB
     have BK627 := n0_
     have BK628 := n1_
     have BK629 := n2_
     have HB := n3_
     clear n0_ n1_ n2_ n3_
     refine jAU (n := 12) (S := fun w' => w'.cell? ⟨gb627, 0, none⟩ = some (.bool a0_0) ∧ w'.cell? ⟨gb627, 1, none⟩ = some (.slice A0_1 l0_1.length c0_1) ∧ w'.cell? ⟨gb627, 2, none⟩ = some (.slice A0_2 l0_2.length c0_2) ∧ w'.cell? ⟨gb628, 0, none⟩ = some (.bool a1_0) ∧ w'.cell? ⟨gb628, 1, none⟩ = some (.slice A1_1 l1_1.length c1_1) ∧ w'.cell? ⟨gb628, 2, none⟩ = some (.slice A1_2 l1_2.length c1_2)) (ds := []) #[false, false, false, false, false, false, false, false, false, false, false, false] kr_ rfl rfl ⟨(jB BK627.out 0).trans rfl, (jB BK627.out 1).trans rfl, (jB BK627.out 2).trans rfl, (jB BK628.out 0).trans rfl, (jB BK628.out 1).trans rfl, (jB BK628.out 2).trans rfl⟩ (fun hHeld => ?_); refine qc vG.tab3 vG.jJx (fun HT_ HW_ => ?_)
     generalize wc.drew = w29 at BK627 BK628 BK629 HB hHeld ⊢
     refine pu_ 0 (some 17) (ba_ 12 1) (jd HT_.out kr_) ?_
     refine pu_ 2 (some 19) (ba_ 12 5) (jd HT_.out kr_) ?_
     refine pu_ 5 (some 22) (ba_ 12 37) (jd HT_.out kr_) ?_
     refine pu_ 7 (some 24) (ba_ 12 165) (jd HT_.out kr_) ?_
     refine tk6_ 1 (some 18) (ba_ 12 167) (jv HT_.out HW_.out kr_) hHeld ?_
     refine tk6_ 3 (some 20) (ba_ 12 175) (jv HT_.out HW_.out kr_) hHeld ?_
     refine tk6_ 6 (some 23) (ba_ 12 239) (jv HT_.out HW_.out kr_) hHeld ?_
     refine tk6_ 8 (some 25) (ba_ 12 495) (jv HT_.out HW_.out kr_) hHeld ?_
     refine one_ (i := 4) (N := some 21) (ba_ 12 511) rfl rfl (vv HT_.out kr_) (by decide) (fun K hK => ?_)
     refine jAQ Try.func88 kr_ rfl #[.slice A0_1 l0_1.length c0_1, .slice A1_1 l1_1.length c1_1] (by rfl) rfl rfl (by (try simp only [List.map_toArray, List.map_cons, List.map_nil]); first | done | rfl | (simp only [List.length_drop, List.length_take]; rfl)) ?_
     with_reducible refine (jl.calls kj2 _ _ l0_1 _ _ l1_1 t632 _ ?side1 ?side2 ?side3 ?side4 A25.out).mono ?_
     (case side1 => exact cb_ HR0_1 HB)
     (case side2 => exact HC0_1.out)
     (case side3 => exact cb_ HR1_1 HB)
     (case side4 => exact HC1_1.out)
     rintro e w30 ⟨v633, rfl, ho0, hb⟩
     refine ⟨_, rfl, ?_⟩
     have n0_ := jA.mk (Kd.jN ho0 (jC (bb3_ HB GE627 GE628 GE629)))
     have n1_ := bk_ BK627 hb
     have n2_ := bk_ BK628 hb
     have n3_ := bk_ BK629 hb
     have n4_ := jA.mk (jI (bb3_ HB GE627 GE628 GE629) hb)
     clear BK627
     clear BK628
     clear BK629
     clear HB
     have HO634 := n0_
     have BK627 := n1_
     have BK628 := n2_
     have BK629 := n3_
     have HB := n4_
     clear n0_ n1_ n2_ n3_ n4_
     (try clear hb)
     (try clear hb2)
     (try clear hk)
     (try clear hi)
     (try clear ho0)
     refine hK.out _ _ ⟨(jB BK627.out 0).trans rfl, (jB BK627.out 1).trans rfl, (jB BK627.out 2).trans rfl, (jB BK628.out 0).trans rfl, (jB BK628.out 1).trans rfl, (jB BK628.out 2).trans rfl⟩ (fun hHeld => ?_)
     clear hK K
     refine ns_ 21 ?_
     refine one_ (i := 9) (N := some 26) (ba_ 12 1023) rfl rfl (vv HT_.out kr_) (by decide) (fun K hK => ?_)
     refine jAQ Try.func88 kr_ rfl #[.slice A0_2 l0_2.length c0_2, .slice A1_2 l1_2.length c1_2] (by rfl) rfl rfl (by (try simp only [List.map_toArray, List.map_cons, List.map_nil]); first | done | rfl | (simp only [List.length_drop, List.length_take]; rfl)) ?_
     with_reducible refine (jl.calls kj2 _ _ l0_2 _ _ l1_2 t635 _ ?side1 ?side2 ?side3 ?side4 A26.out).mono ?_
     (case side1 => exact cb_ HR0_2 HB)
     (case side2 => exact HC0_2.out)
     (case side3 => exact cb_ HR1_2 HB)
     (case side4 => exact HC1_2.out)
     rintro e w31 ⟨v636, rfl, ho0, hb⟩
     refine ⟨_, rfl, ?_⟩
     have n0_ := re_ HO634 ho0 hb
     have n1_ := jA.mk (Kd.jN (Kd.jL ho0 (Kd.R_lt (rR_ HO634))) (jC (bb3_ HB GE627 GE628 GE629)))
     have n2_ := bk_ BK627 hb
     have n3_ := bk_ BK628 hb
     have n4_ := bk_ BK629 hb
     have n5_ := jA.mk (jI (bb3_ HB GE627 GE628 GE629) hb)
     clear HO634
     clear BK627
     clear BK628
     clear BK629
     clear HB
     have HO634 := n0_
     have HO637 := n1_
     have BK627 := n2_
     have BK628 := n3_
     have BK629 := n4_
     have HB := n5_
     clear n0_ n1_ n2_ n3_ n4_ n5_
     (try clear hb)
     (try clear hb2)
     (try clear hk)
     (try clear hi)
     (try clear ho0)
     refine hK.out _ _ ⟨(jB BK627.out 0).trans rfl, (jB BK627.out 1).trans rfl, (jB BK627.out 2).trans rfl, (jB BK628.out 0).trans rfl, (jB BK628.out 1).trans rfl, (jB BK628.out 2).trans rfl⟩ (fun hHeld => ?_)
     clear hK K
     refine ns_ 26 ?_
     refine pu_ 10 (some 6) (ba_ 12 2047) (jd HT_.out kr_) ?_
     refine pu_ 11 (some 7) (ba_ 12 4095) (jd HT_.out kr_) ?_
     refine jAv (jAn HT_.out kr_) ?_
     obtain ⟨Ao32, co32, eo32⟩ := Kd.jV HO634.out
     subst eo32
     obtain ⟨Ao33, co33, eo33⟩ := Kd.jV HO637.out
     subst eo33
     try go_wp2_with (first | ((with_reducible refine jX (N := 29) rfl ?_); refine Kd.jHl (Kd.slice 22 (Kd.int .u64)) _ 35 ?hg (N' := 29) ?hd (xs := ([t632, t635] : List (List Int))) (inner := [.slice Ao32 t632.length co32, .slice Ao33 t635.length co33]) (ok := (fun k_ => k_ ≠ gb627 ∧ k_ ≠ gb628 ∧ k_ ≠ gb629)) (okp := (fun k_ => k_ ≠ gb627 ∧ k_ ≠ gb628 ∧ k_ ≠ gb629)) ?hr ?hp (fun _ hk => hk) ((show ∀ k_, w31.heap.size ≤ k_ → (fun k_ => k_ ≠ gb627 ∧ k_ ≠ gb628 ∧ k_ ≠ gb629) k_ from fun k_ hk => ⟨Kd.jAI (g := gb627) (o := .cells #[.bool a0_0, .slice A0_1 l0_1.length c0_1, .slice A0_2 l0_2.length c0_2] 44 (0, 0)) (kb_ BK627) k_ hk, Kd.jAI (g := gb628) (o := .cells #[.bool a1_0, .slice A1_1 l1_1.length c1_1, .slice A1_2 l1_2.length c1_2] 44 (0, 0)) (kb_ BK628) k_ hk, Kd.jAI (g := gb629) (o := .cells #[.bool false, .slice none 0 0, .slice none 0 0] 44 (0, 0)) (kb_ BK629) k_ hk⟩) _ (Nat.le_refl _)) (Below.refl _ _) (Nat.le_refl _) (by simp) ?_; (case hd => rfl); (case hg => rfl); (case hr => exact gs_); (case hp => exact (Reps.one (show Kd.FK (Kd.slice 22 (Kd.int .u64)) _ _ t632 [.slice Ao32 t632.length co32] from (Kd.qJ (Kd.jE (Kd.jT (ok' := (fun k_ => k_ ≠ gb627 ∧ k_ ≠ gb628 ∧ k_ ≠ gb629)) (Kd.jZ (Kd.jZ (Kd.jZ (HO634.out) BK627.out (by decide)) BK628.out (by decide)) BK629.out (by decide)) (fun k_ hk => ⟨hk.1.1.2, ⟨hk.1.2, hk.2⟩⟩))).2.1 (Kd.R_F (Kd.jT (ok' := (fun k_ => k_ ≠ gb627 ∧ k_ ≠ gb628 ∧ k_ ≠ gb629)) (Kd.jZ (Kd.jZ (Kd.jZ (HO634.out) BK627.out (by decide)) BK628.out (by decide)) BK629.out (by decide)) (fun k_ hk => ⟨hk.1.1.2, ⟨hk.1.2, hk.2⟩⟩))))) (Reps.one (show Kd.FK (Kd.slice 22 (Kd.int .u64)) _ _ t635 [.slice Ao33 t635.length co33] from (Kd.qJ (Kd.jE (Kd.jT (ok' := (fun k_ => k_ ≠ gb627 ∧ k_ ≠ gb628 ∧ k_ ≠ gb629)) (Kd.jZ (Kd.jZ (Kd.jZ (HO637.out) BK627.out (by decide)) BK628.out (by decide)) BK629.out (by decide)) (fun k_ hk => ⟨hk.1.1.2, ⟨hk.1.2, hk.2⟩⟩))).2.1 (Kd.R_F (Kd.jT (ok' := (fun k_ => k_ ≠ gb627 ∧ k_ ≠ gb628 ∧ k_ ≠ gb629)) (Kd.jZ (Kd.jZ (Kd.jZ (HO637.out) BK627.out (by decide)) BK628.out (by decide)) BK629.out (by decide)) (fun k_ hk => ⟨hk.1.1.2, ⟨hk.1.2, hk.2⟩⟩))))) (Reps.none _ _)))); intro v639 w34 ho35 hb hg_ hnew_; clear hg_ hnew_; (first | rw [← Ny638.out] at ho35 | (simp only [Int.reduceToNat] at ho35; rw [← Ny638.out] at ho35)); have HO640 := jA.mk (Kd.jDc ho35 (jC (bb3_ HB GE627 GE628 GE629))); replace BK627 := bk_ BK627 hb; replace BK628 := bk_ BK628 hb; replace BK629 := bk_ BK629 hb; replace HB := jA.mk (jI (bb3_ HB GE627 GE628 GE629) hb); clear HO634 HO637 hb ho35; obtain ⟨Ao36, co36, rfl⟩ := Kd.jDb HO640.out) | ((with_reducible refine jH (f := 89) rfl ?_); refine gl_ (some 30) Try.func89 #[.slice Ao36 y638.length co36] ?_; (with_reducible refine (vR.calls _ _ y638 true _ ?side1 ?side2 A27.out).mono ?_); (case side1 => repeat (first | exact (Kd.jAs HO640.out).2.2 | (with_reducible refine Kd.zJ ?_ _) | (with_reducible refine Kd.zU ?_ _) | (with_reducible refine Kd.zx ?_))); (case side2 => exact (Kd.jAs HO640.out).2.1); rintro e w' ⟨rfl, ⟨nd, rfl⟩⟩; refine ⟨_, rfl, ?_⟩; (try (rw [qh w34]; generalize hq_ : World.drewN w34 _ = w34; replace HO640 : jA (Kd.N (Kd.slice 22 (Kd.int .u64)) 35 w34 w.heap.size (fun k_ => k_ ≠ gb627 ∧ k_ ≠ gb628 ∧ k_ ≠ gb629) (.slice Ao36 y638.length co36) y638) := ⟨by rw [← hq_]; exact (rN_ HO640)⟩; replace BK627 : jA (w34.heap[gb627]? = some (.cells #[.bool a0_0, .slice A0_1 l0_1.length c0_1, .slice A0_2 l0_2.length c0_2] 44 (0, 0))) := ⟨by rw [← hq_]; exact (kb_ BK627)⟩; replace BK628 : jA (w34.heap[gb628]? = some (.cells #[.bool a1_0, .slice A1_1 l1_1.length c1_1, .slice A1_2 l1_2.length c1_2] 44 (0, 0))) := ⟨by rw [← hq_]; exact (kb_ BK628)⟩; replace BK629 : jA (w34.heap[gb629]? = some (.cells #[.bool false, .slice none 0 0, .slice none 0 0] 44 (0, 0))) := ⟨by rw [← hq_]; exact (kb_ BK629)⟩; replace HB : jA (Below w.heap.size w w34) := ⟨by rw [← hq_]; exact (bb3_ HB GE627 GE628 GE629)⟩; clear hq_)); have hnb37 := NB629_627.out; have hnc37 := NB627_629.out; have hnb38 := NB629_628.out; have hnc38 := NB628_629.out; obtain ⟨hcz39_0, hcz39_1, hcz39_2, hfz39_0, hfz39_1, hfz39_2⟩ := bf3_ BK629))
     refine bodyPost_ret (zn rfl _ _ gb629 44 #[.bool false, .slice none 0 0, .slice none 0 0] (0, 0) _ rfl (by refine pk_ ?_; refine jm (cs := #[.bool false, .slice none 0 0, .slice none 0 0]) ?_ 2 _ rs_; refine pk_ ?_; refine jm (cs := #[.bool false, .slice none 0 0, .slice none 0 0]) ?_ 1 _ rs_; refine pk_ ?_; refine jm (cs := #[.bool false, .slice none 0 0, .slice none 0 0]) ?_ 0 _ rs_; refine pk_ ?_; exact BK629.out) Try.underlying44 rfl kr_) rfl ?_
     exact ⟨_, _, ew_, nl_, nl_, (bb3_ HB GE627 GE628 GE629)⟩
    ·
     replace c28 := Bool.eq_false_iff.mpr c28
     subst c28
     replace H := in_ H
     replace H := ob_ H
     obtain ⟨⟨t642, t643, t646, t649⟩, A400, H⟩ := H
     try dsimp only at H
     have A40 := jA.mk A400
     clear A400
     simp only [Option.some.injEq, Prod.mk.injEq] at H
     obtain ⟨rfl, rfl, rfl, rfl⟩ := H
     try go_wp2
     have n0_ := jA.mk (vF BK627.out)
     have n1_ := jA.mk (vF BK628.out)
     have n2_ := jA.mk (vF BK629.out)
     have n3_ := jA.mk (zY HB.out)
     clear BK627
     clear BK628
     clear BK629
     clear HB
     have BK627 := n0_
     have BK628 := n1_
     have BK629 := n2_
     have HB := n3_
     clear n0_ n1_ n2_ n3_
     refine jAU (n := 12) (S := fun w' => w'.cell? ⟨gb627, 0, none⟩ = some (.bool a0_0) ∧ w'.cell? ⟨gb627, 1, none⟩ = some (.slice A0_1 l0_1.length c0_1) ∧ w'.cell? ⟨gb627, 2, none⟩ = some (.slice A0_2 l0_2.length c0_2) ∧ w'.cell? ⟨gb628, 0, none⟩ = some (.bool a1_0) ∧ w'.cell? ⟨gb628, 1, none⟩ = some (.slice A1_1 l1_1.length c1_1) ∧ w'.cell? ⟨gb628, 2, none⟩ = some (.slice A1_2 l1_2.length c1_2)) (ds := []) #[false, false, false, false, false, false, false, false, false, false, false, false] kr_ rfl rfl ⟨(jB BK627.out 0).trans rfl, (jB BK627.out 1).trans rfl, (jB BK627.out 2).trans rfl, (jB BK628.out 0).trans rfl, (jB BK628.out 1).trans rfl, (jB BK628.out 2).trans rfl⟩ (fun hHeld => ?_); refine qc vG.tab3 vG.jJx (fun HT_ HW_ => ?_)
     generalize wc.drew = w41 at BK627 BK628 BK629 HB hHeld ⊢
     refine pu_ 0 (some 17) (ba_ 12 1) (jd HT_.out kr_) ?_
     refine pu_ 2 (some 19) (ba_ 12 5) (jd HT_.out kr_) ?_
     refine pu_ 5 (some 22) (ba_ 12 37) (jd HT_.out kr_) ?_
     refine pu_ 7 (some 24) (ba_ 12 165) (jd HT_.out kr_) ?_
     refine tk6_ 1 (some 18) (ba_ 12 167) (jv HT_.out HW_.out kr_) hHeld ?_
     refine tk6_ 3 (some 20) (ba_ 12 175) (jv HT_.out HW_.out kr_) hHeld ?_
     refine tk6_ 6 (some 23) (ba_ 12 239) (jv HT_.out HW_.out kr_) hHeld ?_
     refine tk6_ 8 (some 25) (ba_ 12 495) (jv HT_.out HW_.out kr_) hHeld ?_
     refine one_ (i := 4) (N := some 21) (ba_ 12 511) rfl rfl (vv HT_.out kr_) (by decide) (fun K hK => ?_)
     refine jAQ Try.func88 kr_ rfl #[.slice A0_1 l0_1.length c0_1, .slice A1_1 l1_1.length c1_1] (by rfl) rfl rfl (by (try simp only [List.map_toArray, List.map_cons, List.map_nil]); first | done | rfl | (simp only [List.length_drop, List.length_take]; rfl)) ?_
     with_reducible refine (jl.calls kj2 _ _ l0_1 _ _ l1_1 t632 _ ?side1 ?side2 ?side3 ?side4 A25.out).mono ?_
     (case side1 => exact cb_ HR0_1 HB)
     (case side2 => exact HC0_1.out)
     (case side3 => exact cb_ HR1_1 HB)
     (case side4 => exact HC1_1.out)
     rintro e w42 ⟨v633, rfl, ho0, hb⟩
     refine ⟨_, rfl, ?_⟩
     have n0_ := jA.mk (Kd.jN ho0 (jC (bb3_ HB GE627 GE628 GE629)))
     have n1_ := bk_ BK627 hb
     have n2_ := bk_ BK628 hb
     have n3_ := bk_ BK629 hb
     have n4_ := jA.mk (jI (bb3_ HB GE627 GE628 GE629) hb)
     clear BK627
     clear BK628
     clear BK629
     clear HB
     have HO634 := n0_
     have BK627 := n1_
     have BK628 := n2_
     have BK629 := n3_
     have HB := n4_
     clear n0_ n1_ n2_ n3_ n4_
     (try clear hb)
     (try clear hb2)
     (try clear hk)
     (try clear hi)
     (try clear ho0)
     refine hK.out _ _ ⟨(jB BK627.out 0).trans rfl, (jB BK627.out 1).trans rfl, (jB BK627.out 2).trans rfl, (jB BK628.out 0).trans rfl, (jB BK628.out 1).trans rfl, (jB BK628.out 2).trans rfl⟩ (fun hHeld => ?_)
     clear hK K
     refine ns_ 21 ?_
     refine one_ (i := 9) (N := some 26) (ba_ 12 1023) rfl rfl (vv HT_.out kr_) (by decide) (fun K hK => ?_)
     refine jAQ Try.func88 kr_ rfl #[.slice A0_2 l0_2.length c0_2, .slice A1_2 l1_2.length c1_2] (by rfl) rfl rfl (by (try simp only [List.map_toArray, List.map_cons, List.map_nil]); first | done | rfl | (simp only [List.length_drop, List.length_take]; rfl)) ?_
     with_reducible refine (jl.calls kj2 _ _ l0_2 _ _ l1_2 t635 _ ?side1 ?side2 ?side3 ?side4 A26.out).mono ?_
     (case side1 => exact cb_ HR0_2 HB)
     (case side2 => exact HC0_2.out)
     (case side3 => exact cb_ HR1_2 HB)
     (case side4 => exact HC1_2.out)
     rintro e w43 ⟨v636, rfl, ho0, hb⟩
     refine ⟨_, rfl, ?_⟩
     have n0_ := re_ HO634 ho0 hb
     have n1_ := jA.mk (Kd.jN (Kd.jL ho0 (Kd.R_lt (rR_ HO634))) (jC (bb3_ HB GE627 GE628 GE629)))
     have n2_ := bk_ BK627 hb
     have n3_ := bk_ BK628 hb
     have n4_ := bk_ BK629 hb
     have n5_ := jA.mk (jI (bb3_ HB GE627 GE628 GE629) hb)
     clear HO634
     clear BK627
     clear BK628
     clear BK629
     clear HB
     have HO634 := n0_
     have HO637 := n1_
     have BK627 := n2_
     have BK628 := n3_
     have BK629 := n4_
     have HB := n5_
     clear n0_ n1_ n2_ n3_ n4_ n5_
     (try clear hb)
     (try clear hb2)
     (try clear hk)
     (try clear hi)
     (try clear ho0)
     refine hK.out _ _ ⟨(jB BK627.out 0).trans rfl, (jB BK627.out 1).trans rfl, (jB BK627.out 2).trans rfl, (jB BK628.out 0).trans rfl, (jB BK628.out 1).trans rfl, (jB BK628.out 2).trans rfl⟩ (fun hHeld => ?_)
     clear hK K
     refine ns_ 26 ?_
     refine pu_ 10 (some 6) (ba_ 12 2047) (jd HT_.out kr_) ?_
     refine pu_ 11 (some 7) (ba_ 12 4095) (jd HT_.out kr_) ?_
     refine jAv (jAn HT_.out kr_) ?_
     obtain ⟨Ao44, co44, eo44⟩ := Kd.jV HO634.out
     subst eo44
     obtain ⟨Ao45, co45, eo45⟩ := Kd.jV HO637.out
     subst eo45
     try go_wp2_with (first | ((with_reducible refine jX (N := 29) rfl ?_); refine Kd.jHl (Kd.slice 22 (Kd.int .u64)) _ 35 ?hg (N' := 29) ?hd (xs := ([t632, t635] : List (List Int))) (inner := [.slice Ao44 t632.length co44, .slice Ao45 t635.length co45]) (ok := (fun k_ => k_ ≠ gb627 ∧ k_ ≠ gb628 ∧ k_ ≠ gb629)) (okp := (fun k_ => k_ ≠ gb627 ∧ k_ ≠ gb628 ∧ k_ ≠ gb629)) ?hr ?hp (fun _ hk => hk) ((show ∀ k_, w43.heap.size ≤ k_ → (fun k_ => k_ ≠ gb627 ∧ k_ ≠ gb628 ∧ k_ ≠ gb629) k_ from fun k_ hk => ⟨Kd.jAI (g := gb627) (o := .cells #[.bool a0_0, .slice A0_1 l0_1.length c0_1, .slice A0_2 l0_2.length c0_2] 44 (0, 0)) (kb_ BK627) k_ hk, Kd.jAI (g := gb628) (o := .cells #[.bool a1_0, .slice A1_1 l1_1.length c1_1, .slice A1_2 l1_2.length c1_2] 44 (0, 0)) (kb_ BK628) k_ hk, Kd.jAI (g := gb629) (o := .cells #[.bool false, .slice none 0 0, .slice none 0 0] 44 (0, 0)) (kb_ BK629) k_ hk⟩) _ (Nat.le_refl _)) (Below.refl _ _) (Nat.le_refl _) (by simp) ?_; (case hd => rfl); (case hg => rfl); (case hr => exact gs_); (case hp => exact (Reps.one (show Kd.FK (Kd.slice 22 (Kd.int .u64)) _ _ t632 [.slice Ao44 t632.length co44] from (Kd.qJ (Kd.jE (Kd.jT (ok' := (fun k_ => k_ ≠ gb627 ∧ k_ ≠ gb628 ∧ k_ ≠ gb629)) (Kd.jZ (Kd.jZ (Kd.jZ (HO634.out) BK627.out (by decide)) BK628.out (by decide)) BK629.out (by decide)) (fun k_ hk => ⟨hk.1.1.2, ⟨hk.1.2, hk.2⟩⟩))).2.1 (Kd.R_F (Kd.jT (ok' := (fun k_ => k_ ≠ gb627 ∧ k_ ≠ gb628 ∧ k_ ≠ gb629)) (Kd.jZ (Kd.jZ (Kd.jZ (HO634.out) BK627.out (by decide)) BK628.out (by decide)) BK629.out (by decide)) (fun k_ hk => ⟨hk.1.1.2, ⟨hk.1.2, hk.2⟩⟩))))) (Reps.one (show Kd.FK (Kd.slice 22 (Kd.int .u64)) _ _ t635 [.slice Ao45 t635.length co45] from (Kd.qJ (Kd.jE (Kd.jT (ok' := (fun k_ => k_ ≠ gb627 ∧ k_ ≠ gb628 ∧ k_ ≠ gb629)) (Kd.jZ (Kd.jZ (Kd.jZ (HO637.out) BK627.out (by decide)) BK628.out (by decide)) BK629.out (by decide)) (fun k_ hk => ⟨hk.1.1.2, ⟨hk.1.2, hk.2⟩⟩))).2.1 (Kd.R_F (Kd.jT (ok' := (fun k_ => k_ ≠ gb627 ∧ k_ ≠ gb628 ∧ k_ ≠ gb629)) (Kd.jZ (Kd.jZ (Kd.jZ (HO637.out) BK627.out (by decide)) BK628.out (by decide)) BK629.out (by decide)) (fun k_ hk => ⟨hk.1.1.2, ⟨hk.1.2, hk.2⟩⟩))))) (Reps.none _ _)))); intro v639 w46 ho47 hb hg_ hnew_; clear hg_ hnew_; (first | rw [← Ny638.out] at ho47 | (simp only [Int.reduceToNat] at ho47; rw [← Ny638.out] at ho47)); have n0_ := jA.mk (Kd.jDc ho47 (jC (bb3_ HB GE627 GE628 GE629))); have n1_ := bk_ BK627 hb; have n2_ := bk_ BK628 hb; have n3_ := bk_ BK629 hb; have n4_ := jA.mk (jI (bb3_ HB GE627 GE628 GE629) hb); have m0_ := jA.mk (Kd.jAS (rR_ HO634) (Kd.jEF ho47) hb); have m1_ := jA.mk (Kd.jAS (rR_ HO637) (Kd.jEF ho47) hb); clear BK627 BK628 BK629 HB HO634 HO637; have HO640 := n0_; have BK627 := n1_; have BK628 := n2_; have BK629 := n3_; have HB := n4_; clear n0_ n1_ n2_ n3_ n4_; have HO634 := m0_; clear m0_; have HO637 := m1_; clear m1_ hb ho47; obtain ⟨Ao48, co48, rfl⟩ := Kd.jDb HO640.out) | ((with_reducible refine jH (f := 89) rfl ?_); refine gl_ (some 30) Try.func89 #[.slice Ao48 y638.length co48] ?_; (with_reducible refine (vR.calls _ _ y638 false _ ?side1 ?side2 A27.out).mono ?_); (case side1 => repeat (first | exact (Kd.jAs HO640.out).2.2 | (with_reducible refine Kd.zJ ?_ _) | (with_reducible refine Kd.zU ?_ _) | (with_reducible refine Kd.zx ?_))); (case side2 => exact (Kd.jAs HO640.out).2.1); rintro e w' ⟨rfl, ⟨nd, rfl⟩⟩; refine ⟨_, rfl, ?_⟩; (try (rw [qh w46]; generalize hq_ : World.drewN w46 _ = w46; have m0_ := jA.mk (show Kd.R (Kd.int .u64) 22 w46 w.heap.size _ _ _ from (by rw [← hq_]; exact (rR_ HO634))); have m1_ := jA.mk (show Kd.R (Kd.int .u64) 22 w46 w.heap.size _ _ _ from (by rw [← hq_]; exact (rR_ HO637))); replace HO640 : jA (Kd.N (Kd.slice 22 (Kd.int .u64)) 35 w46 w.heap.size (fun k_ => k_ ≠ gb627 ∧ k_ ≠ gb628 ∧ k_ ≠ gb629) (.slice Ao48 y638.length co48) y638) := ⟨by rw [← hq_]; exact (rN_ HO640)⟩; replace BK627 : jA (w46.heap[gb627]? = some (.cells #[.bool a0_0, .slice A0_1 l0_1.length c0_1, .slice A0_2 l0_2.length c0_2] 44 (0, 0))) := ⟨by rw [← hq_]; exact (kb_ BK627)⟩; replace BK628 : jA (w46.heap[gb628]? = some (.cells #[.bool a1_0, .slice A1_1 l1_1.length c1_1, .slice A1_2 l1_2.length c1_2] 44 (0, 0))) := ⟨by rw [← hq_]; exact (kb_ BK628)⟩; replace BK629 : jA (w46.heap[gb629]? = some (.cells #[.bool false, .slice none 0 0, .slice none 0 0] 44 (0, 0))) := ⟨by rw [← hq_]; exact (kb_ BK629)⟩; replace HB : jA (Below w.heap.size w w46) := ⟨by rw [← hq_]; exact (bb3_ HB GE627 GE628 GE629)⟩; clear hq_ HO634; have HO634 := m0_; clear m0_ HO637; have HO637 := m1_; clear m1_)); have hnb49 := NB627_628.out; have hnc49 := NB628_627.out; have hnb50 := NB627_629.out; have hnc50 := NB629_627.out; obtain ⟨hcz51_0, hcz51_1, hcz51_2, hfz51_0, hfz51_1, hfz51_2⟩ := bf3_ BK627; have hnb52 := NB628_629.out; have hnc52 := NB629_628.out; obtain ⟨hcz53_0, hcz53_1, hcz53_2, hfz53_0, hfz53_1, hfz53_2⟩ := bf3_ BK628) | ((with_reducible refine jH (f := 24) rfl ?_); refine gl_ (some 39) Try.func24 #[.bool (a0_0 != a1_0), .slice Ao44 t632.length co44, .slice Ao45 t635.length co45] ?_; (with_reducible refine (zm.calls kj2 (a0_0 != a1_0) _ _ t632 _ _ t635 t642 t643 t646 t649 _ ?side1 ?side2 ?side3 ?side4 A40.out).mono ?_); (case side1 => exact cc_ (Kd.jE HO634.out).2.2); (case side2 => exact (Kd.jE HO634.out).2.1); (case side3 => exact cc_ (Kd.jE HO637.out).2.2); (case side4 => exact (Kd.jE HO637.out).2.1); rintro e w54 ⟨v644, v647, rfl, ho0, ho1, hb⟩; refine ⟨_, rfl, ?_⟩; replace HO640 := jA.mk (Kd.jGo (Kd.jFN (Kd.jFN (Kd.jKL (rN_ HO640) hb) (Kd.vB ho0)) (Kd.vB ho1)) (fun _ h_ => h_.1)); have HO645 := jA.mk (Kd.jN ho0 (jC (bb3_ HB GE627 GE628 GE629))); have HO648 := jA.mk (Kd.jN ho1 (jC (bb3_ HB GE627 GE628 GE629))); replace BK627 := bk_ BK627 hb; replace BK628 := bk_ BK628 hb; replace BK629 := bk_ BK629 hb; replace HB := jA.mk (jI (bb3_ HB GE627 GE628 GE629) hb); obtain ⟨hcz55_0, hcz55_1, hcz55_2, hfz55_0, hfz55_1, hfz55_2⟩ := bf3_ BK629; obtain ⟨Ao56, co56, rfl⟩ := Kd.jV HO645.out; obtain ⟨Ao57, co57, rfl⟩ := Kd.jV HO648.out))
     refine bodyPost_ret (zn rfl _ _ gb629 44 #[.bool t642, .slice Ao56 t643.length co56, .slice Ao57 t646.length co57] (0, 0) _ rfl (by refine pk_ ?_; refine jm (cs := #[.bool t642, .slice Ao56 t643.length co56, .slice none 0 0]) ?_ 2 _ rs_; refine pk_ ?_; refine jm (cs := #[.bool t642, .slice none 0 0, .slice none 0 0]) ?_ 1 _ rs_; refine pk_ ?_; refine jm (cs := #[.bool false, .slice none 0 0, .slice none 0 0]) ?_ 0 _ rs_; refine pk_ ?_; exact BK629.out) Try.underlying44 rfl kr_) rfl ?_
     exact ⟨_, _, ew_, by refine pR_ ?_; exact Kd.jT (Kd.vQ (p := ⟨gb629, 2, none⟩) (Kd.vQ (p := ⟨gb629, 1, none⟩) (Kd.vQ (p := ⟨gb629, 0, none⟩) (Kd.jZ HO645.out BK629.out (by decide)) (fun _ hk => hk.2) (.bool t642)) (fun _ hk => hk.2) (.slice Ao56 t643.length co56)) (fun _ hk => hk.2) (.slice Ao57 t646.length co57)) (fun _ hk => hk.1), by refine pR_ ?_; exact Kd.jT (Kd.vQ (p := ⟨gb629, 2, none⟩) (Kd.vQ (p := ⟨gb629, 1, none⟩) (Kd.vQ (p := ⟨gb629, 0, none⟩) (Kd.jZ HO648.out BK629.out (by decide)) (fun _ hk => hk.2) (.bool t642)) (fun _ hk => hk.2) (.slice Ao56 t643.length co56)) (fun _ hk => hk.2) (.slice Ao57 t646.length co57)) (fun _ hk => hk.1), (bb3_ HB GE627 GE628 GE629)⟩
def zA.f (k : Nat) (a0_0 : Bool) (l0_1 : List Int) (l0_2 : List Int) (a1_0 : Bool) (l1_1 : List Int) (l1_2 : List Int) : Option (Bool × List Int × List Int) := (vG.f k a0_0 l0_1 l0_2 a1_0 l1_1 l1_2).bind fun bt653 => (some (bt653.1, bt653.2.1, bt653.2.2.1))
theorem zA.mono : ∀ a0 a1 a2 a3 a4 a5 k, LeO (zA.f k a0 a1 a2 a3 a4 a5) (zA.f (k + 1) a0 a1 a2 a3 a4 a5) := by
 intro a0 a1 a2 a3 a4 a5 k
 unfold zA.f
 repeat' first
   | (with_reducible exact vG.mono _ _ _ _ _ _ _)
   | (with_reducible exact LeO.refl _)
   | (with_reducible exact LeO.none _)
   | (with_reducible refine LeO.ite ?_ ?_)
   | (with_reducible refine LeO.bind ?_ (fun _ => ?_))
theorem zA.calls (k : Nat) (a0_0 : Bool) (A0_1 : Option Addr) (c0_1 : Nat) (l0_1 : List Int) (A0_2 : Option Addr) (c0_2 : Nat) (l0_2 : List Int) (a1_0 : Bool) (A1_1 : Option Addr) (c1_1 : Nat) (l1_1 : List Int) (A1_2 : Option Addr) (c1_2 : Nat) (l1_2 : List Int) (r1 : Bool) (r2 : List Int) (r3 : List Int) (w : World) (hr0_1 : Kd.C (Kd.int .u64) w A0_1 l0_1.length l0_1) (hc0_1 : l0_1.length ≤ c0_1) (hr0_2 : Kd.C (Kd.int .u64) w A0_2 l0_2.length l0_2) (hc0_2 : l0_2.length ≤ c0_2) (hr1_1 : Kd.C (Kd.int .u64) w A1_1 l1_1.length l1_1) (hc1_1 : l1_1.length ≤ c1_1) (hr1_2 : Kd.C (Kd.int .u64) w A1_2 l1_2.length l1_2) (hc1_2 : l1_2.length ≤ c1_2) (h : zA.f k a0_0 l0_1 l0_2 a1_0 l1_1 l1_2 = some (r1, r2, r3)) :
  Calls Try.prog 50 #[.agg #[.bool a0_0, .slice A0_1 l0_1.length c0_1, .slice A0_2 l0_2.length c0_2], .agg #[.bool a1_0, .slice A1_1 l1_1.length c1_1, .slice A1_2 l1_2.length c1_2]] w fun e w' => ∃ v1_ v2_ : Value, e = .returned (.agg #[.bool r1, v1_, v2_]) ∧ Kd.R (Kd.int .u64) 22 w' w.heap.size (fun k_ => some k_ ≠ (v2_ : Value).ownBlock) v1_ r2 ∧ Kd.R (Kd.int .u64) 22 w' w.heap.size (fun k_ => some k_ ≠ (v1_ : Value).ownBlock) v2_ r3 ∧ Below w.heap.size w w' := by
 have hu44 := Try.underlying44
 have HR0_1 := jA.mk hr0_1
 have HC0_1 := jA.mk hc0_1
 clear hr0_1 hc0_1
 have HR0_2 := jA.mk hr0_2
 have HC0_2 := jA.mk hc0_2
 clear hr0_2 hc0_2
 have HR1_1 := jA.mk hr1_1
 have HC1_1 := jA.mk hc1_1
 clear hr1_1 hc1_1
 have HR1_2 := jA.mk hr1_2
 have HC1_2 := jA.mk hc1_2
 clear hr1_2 hc1_2
 have HB := jA.mk (Below.refl w.heap.size w)
 have H : ((vG.f k a0_0 l0_1 l0_2 a1_0 l1_1 l1_2).bind fun bt653 => (some (bt653.1, bt653.2.1, bt653.2.2.1))) = some (r1, r2, r3) := h
 clear h
 replace H := ob_ H
 obtain ⟨⟨t653, t654, t657, t660⟩, A30, H⟩ := H
 try dsimp only at H
 have A3 := jA.mk A30
 clear A30
 simp only [Option.some.injEq, Prod.mk.injEq] at H
 obtain ⟨rfl, rfl, rfl⟩ := H
 go_enter Try.func50, Try.ntmps50
 go_wp2_with (first | ((with_reducible refine jX (N := 2) rfl ?_); refine bx_ 2 #[.bool a0_0, .slice A0_1 l0_1.length c0_1, .slice A0_2 l0_2.length c0_2] 44 ?_; intro gb650 hg w4 hbox hb; have BK650 := jA.mk (hbox); have GW650 := jA.mk ((by rw [hg]; exact (jC (bb_ HB)) : w.heap.size ≤ gb650)); have GE650 := GW650; replace HB := bs_ HB hb; clear hb hbox hg) | ((with_reducible refine jX (N := 3) rfl ?_); refine bx_ 3 #[.bool a1_0, .slice A1_1 l1_1.length c1_1, .slice A1_2 l1_2.length c1_2] 44 ?_; intro gb651 hg w5 hbox hb; have BK651 := jA.mk (hbox); have GW651 := jA.mk ((by rw [hg]; exact (jC (bb1_ HB GE650)) : w.heap.size ≤ gb651)); have GE651 := GW651; replace HB := jA.mk (jI (bb1_ HB GE650) hb); have NB650_651 := jA.mk ((by rw [hg]; exact nlt_ BK650 : gb650 ≠ gb651)); have NB651_650 := jA.mk ((by rw [hg]; exact ngt_ BK650 : gb651 ≠ gb650)); replace BK650 := bk_ BK650 hb; clear hb hbox hg) | ((with_reducible refine jX (N := 4) rfl ?_); refine bx_ 4 #[.bool false, .slice none 0 0, .slice none 0 0] 44 ?_; intro gb652 hg w6 hbox hb; have BK652 := jA.mk (hbox); have GW652 := jA.mk ((by rw [hg]; exact (jC (bb2_ HB GE650 GE651)) : w.heap.size ≤ gb652)); have GE652 := GW652; replace HB := jA.mk (jI (bb2_ HB GE650 GE651) hb); have NB650_652 := jA.mk ((by rw [hg]; exact nlt_ BK650 : gb650 ≠ gb652)); have NB652_650 := jA.mk ((by rw [hg]; exact ngt_ BK650 : gb652 ≠ gb650)); replace BK650 := bk_ BK650 hb; have NB651_652 := jA.mk ((by rw [hg]; exact nlt_ BK651 : gb651 ≠ gb652)); have NB652_651 := jA.mk ((by rw [hg]; exact ngt_ BK651 : gb652 ≠ gb651)); replace BK651 := bk_ BK651 hb; clear hb hbox hg; have hnb7 := NB650_651.out; have hnc7 := NB651_650.out; have hnb8 := NB650_652.out; have hnc8 := NB652_650.out; obtain ⟨hcz9_0, hcz9_1, hcz9_2, hfz9_0, hfz9_1, hfz9_2⟩ := bf3_ BK650; have hnb10 := NB651_652.out; have hnc10 := NB652_651.out; obtain ⟨hcz11_0, hcz11_1, hcz11_2, hfz11_0, hfz11_1, hfz11_2⟩ := bf3_ BK651) | ((with_reducible refine jH (f := 51) rfl ?_); refine gl_ (some 10) Try.func51 #[.agg #[.bool a0_0, .slice A0_1 l0_1.length c0_1, .slice A0_2 l0_2.length c0_2], .agg #[.bool a1_0, .slice A1_1 l1_1.length c1_1, .slice A1_2 l1_2.length c1_2]] ?_; (with_reducible refine (vG.calls k a0_0 _ _ l0_1 _ _ l0_2 a1_0 _ _ l1_1 _ _ l1_2 t653 t654 t657 t660 _ ?side1 ?side2 ?side3 ?side4 ?side5 ?side6 ?side7 ?side8 A3.out).mono ?_); (case side1 => exact cb_ HR0_1 HB); (case side2 => exact HC0_1.out); (case side3 => exact cb_ HR0_2 HB); (case side4 => exact HC0_2.out); (case side5 => exact cb_ HR1_1 HB); (case side6 => exact HC1_1.out); (case side7 => exact cb_ HR1_2 HB); (case side8 => exact HC1_2.out); rintro e w12 ⟨v655, v658, rfl, ho0, ho1, hb⟩; refine ⟨_, rfl, ?_⟩; have HO656 := jA.mk (Kd.jN ho0 (jC (bb3_ HB GE650 GE651 GE652))); have HO659 := jA.mk (Kd.jN ho1 (jC (bb3_ HB GE650 GE651 GE652))); replace BK650 := bk_ BK650 hb; replace BK651 := bk_ BK651 hb; replace BK652 := bk_ BK652 hb; replace HB := jA.mk (jI (bb3_ HB GE650 GE651 GE652) hb)) | ((with_reducible refine jX (N := 5) rfl ?_); refine bx_ 5 #[.bool false, .slice none 0 0, .slice none 0 0] 44 ?_; intro gb661 hg w13 hbox hb; replace HO656 := ro_ HO656 hb; replace HO659 := ro_ HO659 hb; have BK661 := jA.mk (hbox); have GW661 := jA.mk ((by rw [hg]; exact (jC (bb3_ HB GE650 GE651 GE652)) : w.heap.size ≤ gb661)); have GE661 := GW661; replace HB := jA.mk (jI (bb3_ HB GE650 GE651 GE652) hb); have NB650_661 := jA.mk ((by rw [hg]; exact nlt_ BK650 : gb650 ≠ gb661)); have NB661_650 := jA.mk ((by rw [hg]; exact ngt_ BK650 : gb661 ≠ gb650)); replace BK650 := bk_ BK650 hb; have NB651_661 := jA.mk ((by rw [hg]; exact nlt_ BK651 : gb651 ≠ gb661)); have NB661_651 := jA.mk ((by rw [hg]; exact ngt_ BK651 : gb661 ≠ gb651)); replace BK651 := bk_ BK651 hb; have NB652_661 := jA.mk ((by rw [hg]; exact nlt_ BK652 : gb652 ≠ gb661)); have NB661_652 := jA.mk ((by rw [hg]; exact ngt_ BK652 : gb661 ≠ gb652)); replace BK652 := bk_ BK652 hb; clear hb hbox hg; have hnb14 := NB661_650.out; have hnc14 := NB650_661.out; have hnb15 := NB661_651.out; have hnc15 := NB651_661.out; have hnb16 := NB661_652.out; have hnc16 := NB652_661.out; obtain ⟨hcz17_0, hcz17_1, hcz17_2, hfz17_0, hfz17_1, hfz17_2⟩ := bf3_ BK661; obtain ⟨Ao18, co18, rfl⟩ := Kd.jV HO656.out; obtain ⟨Ao19, co19, rfl⟩ := Kd.jV HO659.out; obtain ⟨hcz20_0, hcz20_1, hcz20_2, hfz20_0, hfz20_1, hfz20_2⟩ := bf3_ BK652))
 refine bodyPost_ret (results_cell_row rfl _ _ gb652 44 #[.bool t653, .slice Ao18 t654.length co18, .slice Ao19 t657.length co19] (0, 0) _ rfl (by refine pk_ ?_; refine jm (cs := #[.bool t653, .slice Ao18 t654.length co18, .slice none 0 0]) ?_ 2 _ rs_; refine pk_ ?_; refine jm (cs := #[.bool t653, .slice none 0 0, .slice none 0 0]) ?_ 1 _ rs_; refine pk_ ?_; refine jm (cs := #[.bool false, .slice none 0 0, .slice none 0 0]) ?_ 0 _ rs_; refine pk_ ?_; refine qo ?_ NB652_661.out _; refine pk_ ?_; refine qo ?_ NB652_661.out _; refine pk_ ?_; refine qo ?_ NB652_661.out _; refine pk_ ?_; exact BK652.out) Try.underlying44 rfl kr_) rfl ?_
 exact ⟨_, _, ew_, by refine pR_ ?_; exact Kd.jT (Kd.vQ (p := ⟨gb652, 2, none⟩) (Kd.vQ (p := ⟨gb652, 1, none⟩) (Kd.vQ (p := ⟨gb652, 0, none⟩) (Kd.vQ (p := ⟨gb661, 2, none⟩) (Kd.vQ (p := ⟨gb661, 1, none⟩) (Kd.vQ (p := ⟨gb661, 0, none⟩) (Kd.jZ (Kd.jZ HO656.out BK661.out (by decide)) BK652.out (by decide)) (fun _ hk => hk.1.2) (.bool t653)) (fun _ hk => hk.1.2) (.slice Ao18 t654.length co18)) (fun _ hk => hk.1.2) (.slice Ao19 t657.length co19)) (fun _ hk => hk.2) (.bool t653)) (fun _ hk => hk.2) (.slice Ao18 t654.length co18)) (fun _ hk => hk.2) (.slice Ao19 t657.length co19)) (fun _ hk => hk.1.1), by refine pR_ ?_; exact Kd.jT (Kd.vQ (p := ⟨gb652, 2, none⟩) (Kd.vQ (p := ⟨gb652, 1, none⟩) (Kd.vQ (p := ⟨gb652, 0, none⟩) (Kd.vQ (p := ⟨gb661, 2, none⟩) (Kd.vQ (p := ⟨gb661, 1, none⟩) (Kd.vQ (p := ⟨gb661, 0, none⟩) (Kd.jZ (Kd.jZ HO659.out BK661.out (by decide)) BK652.out (by decide)) (fun _ hk => hk.1.2) (.bool t653)) (fun _ hk => hk.1.2) (.slice Ao18 t654.length co18)) (fun _ hk => hk.1.2) (.slice Ao19 t657.length co19)) (fun _ hk => hk.2) (.bool t653)) (fun _ hk => hk.2) (.slice Ao18 t654.length co18)) (fun _ hk => hk.2) (.slice Ao19 t657.length co19)) (fun _ hk => hk.1.1), (bb4_ HB GE650 GE651 GE652 GE661)⟩
def zD.f (l0 : List Int) : Option (List Int) := if l0.length < 17592186044416 then some l0 else none
theorem zD.calls (A0 : Option Addr) (c0 : Nat) (l0 : List Int) (r : List Int) (w : World) (hr0 : Kd.C (Kd.int .u64) w A0 l0.length l0) (hc0 : l0.length ≤ c0) (h : zD.f l0 = some r) :
  Calls Try.prog 90 #[.slice A0 l0.length c0] w fun e w' => ∃ v0_ : Value, e = .returned (v0_) ∧ Kd.R (Kd.int .u64) 22 w' w.heap.size (fun _ => True) v0_ r ∧ Below w.heap.size w w' := by
 have HR0 := jA.mk hr0
 have HC0 := jA.mk hc0
 clear hr0 hc0
 unfold zD.f at h
 by_cases hl : l0.length < 17592186044416
 ·
  rw [if_pos hl] at h
  obtain rfl := Option.some.inj h
  clear h
  have HL := jA.mk hl
  clear hl
  have qq : ∀ (w : World) (a : Option Addr) (n c n' c' : Nat), (binOp .eql 36 (.slice a n c) (.slice none n' c')).run Try.prog w = .ok (.bool a.isNone) w := fun w a n c n' c' => Lib.run_eql_slice_nil w _ _ a n c n' c' Try.underlying36
  cases A0 with
  | none =>
   have hlen : l0 = [] := by
    by_cases hp : 0 < l0.length
    ·
     obtain ⟨ad, e, _⟩ := HR0.out.2.2 hp
     cases e
    ·
     exact List.eq_nil_of_length_eq_zero (by omega)
   subst hlen
   go_enter Try.func90, Try.ntmps90
   go_wp2
   go_ret
   exact ⟨_, rfl, Kd.jCs _ _ _ _ _, Below.refl _ _⟩
  | some ad =>
   have HO : jA (∀ W : World, Kd.R (Kd.int .u64) 22 (W.alloc (.cells #[] 22)) W.heap.size (fun _ => True) (.slice (some ⟨W.heap.size, 0, none⟩) 0 0) []) := ⟨fun W => Kd.jBV (World.ownsRow_made W #[] 0 (Nat.le_refl _) (Nat.zero_le _) rfl) (fun _ _ => trivial)⟩
   go_enter Try.func90, Try.ntmps90
   go_wp2_with ((with_reducible refine vW (b := .append) (xs := #[.tmp 5, .tmp 6]) rfl ?_); at_builtin; refine Kd.jAT (Kd.int .u64) (w0 := w) w.heap.size rfl (.tmp 5) (.tmp 6) 36 22 (.int .u64 0) 8 rfl Try.underlying36 qI rfl (by decide) (by omega) _ [] l0 _ _ _ (fun _ => True) (fun _ => False) rfl rfl ?aO ?aR (fun _ _ h => h) (fun _ h => h.elim) ?aF ?aB ?aS ?aL ?_)
   case aO => exact HO.out w
   case aR => exact Kd.zJ HR0.out _
   case aF => exact fun _ _ => trivial
   case aB => exact jk (Below.refl _ _) _
   case aS => simp
   case aL => have := HL.out; simp; omega
   intro v1 w1 ho hb hg hat
   clear hg hat
   have HO1 := jA.mk ho
   have HB := jA.mk hb
   clear ho hb
   go_wp2
   go_ret
   exact ⟨_, rfl, by simpa using HO1.out, HB.out⟩
 ·
  rw [if_neg hl] at h
  exact absurd h (by simp)
end Go.Proofs.Ytijgeonhbmgikaa.PORatioField
