-- printed (pr.py)
import Derived.Test.YtijgeonhbmgikaaPORatioFieldx16
namespace Go.Proofs.Ytijgeonhbmgikaa.PORatioField
open Go.RowKit Go.Proofs.YtijgeonhbmgikaaN Go.Proofs.YtijgeonhbmgikaaW.PrintWords Go.Proofs.YtijgeonhbmgikaaW.PrintLast Go.Proofs.YtijgeonhbmgikaaW.PrintMore
attribute [local go_sem] qH qF qg qd zq zo qG qE
set_option maxHeartbeats 8000000
set_option maxRecDepth 100000
set_option linter.unusedVariables false
set_option linter.unusedSimpArgs false
def qP.f (a0_0 : Bool) (l0_1 : List Int) (l0_2 : List Int) : Option (Bool × List Int × List Int) := (zF.f a0_0 l0_1 l0_2).bind fun t664 => ((zD.f l0_1).bind fun t665 => ((zD.f l0_2).bind fun t668 => (some ((a0_0 != (!t664)), t665, t668))))
def qP.T1 : Bool × List (List Nat × List Nat) := (true, [([], []), ([0], [0]), ([], []), ([2], [2]), ([3], [3]), ([1, 4], [1, 4]), ([], []), ([6], [6]), ([7, 3], [7]), ([], []), ([9], [9]), ([10, 8], [10]), ([5, 8, 11], [5, 8, 11]), ([12, 11, 0, 1, 2, 3, 4, 5, 6, 7, 8, 9, 10, 11, 12], [12])])
def qP.B1 : List Nat := [0, 1, 0, 4, 12, 31, 0, 64, 204, 0, 512, 1996, 4095, 8191]
theorem qP.tab1 : rtab .any (opsOf Try.f52 1) = qP.T1 := by kernel_rfl
theorem qP.jIu : jAL qP.T1.2 qP.B1 = true := by kernel_rfl
theorem qP.calls (a0_0 : Bool) (A0_1 : Option Addr) (c0_1 : Nat) (l0_1 : List Int) (A0_2 : Option Addr) (c0_2 : Nat) (l0_2 : List Int) (r1 : Bool) (r2 : List Int) (r3 : List Int) (w : World) (hr0_1 : Kd.C (Kd.int .u64) w A0_1 l0_1.length l0_1) (hc0_1 : l0_1.length ≤ c0_1) (hr0_2 : Kd.C (Kd.int .u64) w A0_2 l0_2.length l0_2) (hc0_2 : l0_2.length ≤ c0_2) (h : qP.f a0_0 l0_1 l0_2 = some (r1, r2, r3)) :
  Calls Try.prog 52 #[.agg #[.bool a0_0, .slice A0_1 l0_1.length c0_1, .slice A0_2 l0_2.length c0_2]] w fun e w' => ∃ v1_ v2_ : Value, e = .returned (.agg #[.bool r1, v1_, v2_]) ∧ Kd.R (Kd.int .u64) 22 w' w.heap.size (fun k_ => some k_ ≠ (v2_ : Value).ownBlock) v1_ r2 ∧ Kd.R (Kd.int .u64) 22 w' w.heap.size (fun k_ => some k_ ≠ (v1_ : Value).ownBlock) v2_ r3 ∧ Below w.heap.size w w' := by
 have hu44 := Try.underlying44
 have HR0_1 := jA.mk hr0_1
 have HC0_1 := jA.mk hc0_1
 clear hr0_1 hc0_1
 have HR0_2 := jA.mk hr0_2
 have HC0_2 := jA.mk hc0_2
 clear hr0_2 hc0_2
 have HB := jA.mk (Below.refl w.heap.size w)
 have H : ((zF.f a0_0 l0_1 l0_2).bind fun t664 => ((zD.f l0_1).bind fun t665 => ((zD.f l0_2).bind fun t668 => (some ((a0_0 != (!t664)), t665, t668))))) = some (r1, r2, r3) := h
 clear h
 obtain ⟨t664, A2, H⟩ := oc_ H
 try dsimp only at H
 obtain ⟨t665, A3, H⟩ := oc_ H
 try dsimp only at H
 obtain ⟨t668, A4, H⟩ := oc_ H
 try dsimp only at H
 simp only [Option.some.injEq, Prod.mk.injEq] at H
 obtain ⟨rfl, rfl, rfl⟩ := H
 go_enter Try.func52, Try.ntmps52
 try go_wp2_with (first | ((with_reducible refine jX (N := 1) rfl ?_); refine bx_ 1 #[.bool a0_0, .slice A0_1 l0_1.length c0_1, .slice A0_2 l0_2.length c0_2] 44 ?_; intro gb662 hg w5 hbox hb; have BK662 := jA.mk (hbox); have GW662 := jA.mk ((by rw [hg]; exact (jC (bb_ HB)) : w.heap.size ≤ gb662)); have GE662 := GW662; replace HB := bs_ HB hb; clear hb hbox hg) | ((with_reducible refine jX (N := 2) rfl ?_); refine bx_ 2 #[.bool false, .slice none 0 0, .slice none 0 0] 44 ?_; intro gb663 hg w6 hbox hb; have BK663 := jA.mk (hbox); have GW663 := jA.mk ((by rw [hg]; exact (jC (bb1_ HB GE662)) : w.heap.size ≤ gb663)); have GE663 := GW663; replace HB := jA.mk (jI (bb1_ HB GE662) hb); have NB662_663 := jA.mk ((by rw [hg]; exact nlt_ BK662 : gb662 ≠ gb663)); have NB663_662 := jA.mk ((by rw [hg]; exact ngt_ BK662 : gb663 ≠ gb662)); replace BK662 := bk_ BK662 hb; clear hb hbox hg))
 have n0_ := jA.mk (vF BK662.out)
 have n1_ := jA.mk (vF BK663.out)
 have n2_ := jA.mk (zY HB.out)
 clear BK662
 clear BK663
 clear HB
 have BK662 := n0_
 have BK663 := n1_
 have HB := n2_
 clear n0_ n1_ n2_
 refine jAU (n := 14) (S := fun w' => w'.cell? ⟨gb662, 0, none⟩ = some (.bool a0_0) ∧ w'.cell? ⟨gb662, 1, none⟩ = some (.slice A0_1 l0_1.length c0_1) ∧ w'.cell? ⟨gb662, 2, none⟩ = some (.slice A0_2 l0_2.length c0_2)) (ds := []) #[false, false, false, false, false, false, false, false, false, false, false, false, false, false] kr_ rfl rfl ⟨(jB BK662.out 0).trans rfl, (jB BK662.out 1).trans rfl, (jB BK662.out 2).trans rfl⟩ (fun hHeld => ?_); refine qc qP.tab1 qP.jIu (fun HT_ HW_ => ?_)
 generalize w6.drew = w7 at BK662 BK663 HB hHeld ⊢
 refine pu_ 0 (some 3) (ba_ 14 1) (jd HT_.out kr_) ?_
 refine pu_ 6 (some 9) (ba_ 14 65) (jd HT_.out kr_) ?_
 refine pu_ 9 (some 12) (ba_ 14 577) (jd HT_.out kr_) ?_
 refine tk3_ 1 (some 4) (ba_ 14 579) (jv HT_.out HW_.out kr_) hHeld ?_
 refine tk3_ 2 (some 5) (ba_ 14 583) (jv HT_.out HW_.out kr_) hHeld ?_
 refine tk3_ 7 (some 10) (ba_ 14 711) (jv HT_.out HW_.out kr_) hHeld ?_
 refine tk3_ 10 (some 13) (ba_ 14 1735) (jv HT_.out HW_.out kr_) hHeld ?_
 refine one_ (i := 3) (N := some 6) (ba_ 14 1743) rfl rfl (vv HT_.out kr_) (by decide) (fun K hK => ?_)
 refine jAQ Try.func54 kr_ rfl #[.agg #[.bool a0_0, .slice A0_1 l0_1.length c0_1, .slice A0_2 l0_2.length c0_2]] (by rfl) rfl rfl (by (try simp only [List.map_toArray, List.map_cons, List.map_nil]); first | done | rfl | (simp only [List.length_drop, List.length_take]; rfl)) ?_
 with_reducible refine (zF.calls a0_0 _ _ l0_1 _ _ l0_2 t664 _ ?side1 ?side2 ?side3 ?side4 A2.out).mono ?_
 (case side1 => exact cb_ HR0_1 HB)
 (case side2 => exact HC0_1.out)
 (case side3 => exact cb_ HR0_2 HB)
 (case side4 => exact HC0_2.out)
 rintro e w8 ⟨rfl, hb⟩
 refine ⟨_, rfl, ?_⟩
 have n0_ := bk_ BK662 hb
 have n1_ := bk_ BK663 hb
 have n2_ := jA.mk (jI (bb2_ HB GE662 GE663) hb)
 clear BK662
 clear BK663
 clear HB
 have BK662 := n0_
 have BK663 := n1_
 have HB := n2_
 clear n0_ n1_ n2_
 (try clear hb)
 (try clear hb2)
 (try clear hk)
 (try clear hi)
 refine hK.out _ _ ⟨(jB BK662.out 0).trans rfl, (jB BK662.out 1).trans rfl, (jB BK662.out 2).trans rfl⟩ (fun hHeld => ?_)
 clear hK K
 refine ns_ 6 ?_
 refine pu_ 4 (some 7) (ba_ 14 1759) (jd HT_.out kr_) ?_
 refine pu_ 5 (some 8) (ba_ 14 1791) (jd HT_.out kr_) ?_
 refine one_ (i := 8) (N := some 11) (ba_ 14 2047) rfl rfl (vv HT_.out kr_) (by decide) (fun K hK => ?_)
 refine jAQ Try.func90 kr_ rfl #[.slice A0_1 l0_1.length c0_1] (by rfl) rfl rfl (by (try simp only [List.map_toArray, List.map_cons, List.map_nil]); first | done | rfl | (simp only [List.length_drop, List.length_take]; rfl)) ?_
 with_reducible refine (zD.calls _ _ l0_1 t665 _ ?side1 ?side2 A3.out).mono ?_
 (case side1 => exact cb_ HR0_1 HB)
 (case side2 => exact HC0_1.out)
 rintro e w9 ⟨v666, rfl, ho0, hb⟩
 refine ⟨_, rfl, ?_⟩
 have n0_ := jA.mk (Kd.jN ho0 (jC (bb2_ HB GE662 GE663)))
 have n1_ := bk_ BK662 hb
 have n2_ := bk_ BK663 hb
 have n3_ := jA.mk (jI (bb2_ HB GE662 GE663) hb)
 clear BK662
 clear BK663
 clear HB
 have HO667 := n0_
 have BK662 := n1_
 have BK663 := n2_
 have HB := n3_
 clear n0_ n1_ n2_ n3_
 (try clear hb)
 (try clear hb2)
 (try clear hk)
 (try clear hi)
 (try clear ho0)
 refine hK.out _ _ ⟨(jB BK662.out 0).trans rfl, (jB BK662.out 1).trans rfl, (jB BK662.out 2).trans rfl⟩ (fun hHeld => ?_)
 clear hK K
 refine ns_ 11 ?_
 refine one_ (i := 11) (N := some 14) (ba_ 14 4095) rfl rfl (vv HT_.out kr_) (by decide) (fun K hK => ?_)
 refine jAQ Try.func90 kr_ rfl #[.slice A0_2 l0_2.length c0_2] (by rfl) rfl rfl (by (try simp only [List.map_toArray, List.map_cons, List.map_nil]); first | done | rfl | (simp only [List.length_drop, List.length_take]; rfl)) ?_
 with_reducible refine (zD.calls _ _ l0_2 t668 _ ?side1 ?side2 A4.out).mono ?_
 (case side1 => exact cb_ HR0_2 HB)
 (case side2 => exact HC0_2.out)
 rintro e w10 ⟨v669, rfl, ho0, hb⟩
 refine ⟨_, rfl, ?_⟩
 have n0_ := re_ HO667 ho0 hb
 have n1_ := jA.mk (Kd.jN (Kd.jL ho0 (Kd.R_lt (rR_ HO667))) (jC (bb2_ HB GE662 GE663)))
 have n2_ := bk_ BK662 hb
 have n3_ := bk_ BK663 hb
 have n4_ := jA.mk (jI (bb2_ HB GE662 GE663) hb)
 clear HO667
 clear BK662
 clear BK663
 clear HB
 have HO667 := n0_
 have HO670 := n1_
 have BK662 := n2_
 have BK663 := n3_
 have HB := n4_
 clear n0_ n1_ n2_ n3_ n4_
 (try clear hb)
 (try clear hb2)
 (try clear hk)
 (try clear hi)
 (try clear ho0)
 obtain ⟨Ao11, co11, eo11⟩ := Kd.jV HO670.out
 (first | subst eo11 | (injection eo11 with f1_ f2_ f3_; have f4_ := f1_.symm; have f5_ := f3_.symm; clear f1_ f2_ f3_; subst f4_; subst f5_))
 obtain ⟨Ao12, co12, eo12⟩ := Kd.jV HO667.out
 (first | subst eo12 | (injection eo12 with f1_ f2_ f3_; have f4_ := f1_.symm; have f5_ := f3_.symm; clear f1_ f2_ f3_; subst f4_; subst f5_))
 refine hK.out _ _ ⟨(jB BK662.out 0).trans rfl, (jB BK662.out 1).trans rfl, (jB BK662.out 2).trans rfl⟩ (fun hHeld => ?_)
 clear hK K
 refine ns_ 14 ?_
 refine pu_ 12 (some 15) (ba_ 14 8191) (jd HT_.out kr_) ?_
 refine one_ (i := 13) (N := none) (ba_ 14 16383) rfl rfl (vv HT_.out kr_) (by decide) (fun K hK => ?_)
 have hs13 : w10.cell? ⟨gb663, 0, none⟩ = some (.bool false) := (jB BK663.out 0).trans rfl
 have hfs13 := jg BK663.out 0
 have hns13_0 := NB662_663.out
 have hms13_0 := NB663_662.out
 have hs14 : w10.cell? ⟨gb663, 1, none⟩ = some (.slice none 0 0) := (jB BK663.out 1).trans rfl
 have hfs14 := jg BK663.out 1
 have hns14_0 := NB662_663.out
 have hms14_0 := NB663_662.out
 have hs15 : w10.cell? ⟨gb663, 2, none⟩ = some (.slice none 0 0) := (jB BK663.out 2).trans rfl
 have hfs15 := jg BK663.out 2
 have hns15_0 := NB662_663.out
 have hms15_0 := NB663_662.out
 refine jCN (w1 := ?_) (by rfl) rfl ?_ ?_
 rotate_left
 ·
  go_simp
  rfl
 refine hK.out _ _ ⟨((cell_far (p := ⟨gb663, _, none⟩) NB662_663.out _).trans (((cell_far (p := ⟨gb663, _, none⟩) NB662_663.out _).trans (((cell_far (p := ⟨gb663, _, none⟩) NB662_663.out _).trans (hHeld.1)))))), ((cell_far (p := ⟨gb663, _, none⟩) NB662_663.out _).trans (((cell_far (p := ⟨gb663, _, none⟩) NB662_663.out _).trans (((cell_far (p := ⟨gb663, _, none⟩) NB662_663.out _).trans (hHeld.2.1)))))), ((cell_far (p := ⟨gb663, _, none⟩) NB662_663.out _).trans (((cell_far (p := ⟨gb663, _, none⟩) NB662_663.out _).trans (((cell_far (p := ⟨gb663, _, none⟩) NB662_663.out _).trans (hHeld.2.2))))))⟩ (fun hHeld => ?_)
 clear hK K
 refine jAv (jAn HT_.out kr_) ?_
 try go_wp2
 refine bodyPost_ret (results_cell_row rfl _ _ gb663 44 #[.bool (a0_0 != (!t664)), .slice Ao12 t665.length co12, .slice Ao11 t668.length co11] (0, 0) _ rfl (by refine pk_ ?_; refine jm (cs := #[.bool (a0_0 != (!t664)), .slice Ao12 t665.length co12, .slice none 0 0]) ?_ 2 _ rs_; refine pk_ ?_; refine jm (cs := #[.bool (a0_0 != (!t664)), .slice none 0 0, .slice none 0 0]) ?_ 1 _ rs_; refine pk_ ?_; refine jm (cs := #[.bool false, .slice none 0 0, .slice none 0 0]) ?_ 0 _ rs_; refine pk_ ?_; exact BK663.out) Try.underlying44 rfl kr_) rfl ?_
 exact ⟨_, _, ew_, by refine pR_ ?_; exact Kd.jT (Kd.vQ (p := ⟨gb663, 2, none⟩) (Kd.vQ (p := ⟨gb663, 1, none⟩) (Kd.vQ (p := ⟨gb663, 0, none⟩) (Kd.jZ HO667.out BK663.out (by decide)) (fun _ hk => hk.2) (.bool (a0_0 != (!t664)))) (fun _ hk => hk.2) (.slice Ao12 t665.length co12)) (fun _ hk => hk.2) (.slice Ao11 t668.length co11)) (fun _ hk => hk.1.2), by refine pR_ ?_; exact Kd.jT (Kd.vQ (p := ⟨gb663, 2, none⟩) (Kd.vQ (p := ⟨gb663, 1, none⟩) (Kd.vQ (p := ⟨gb663, 0, none⟩) (Kd.jZ HO670.out BK663.out (by decide)) (fun _ hk => hk.2) (.bool (a0_0 != (!t664)))) (fun _ hk => hk.2) (.slice Ao12 t665.length co12)) (fun _ hk => hk.2) (.slice Ao11 t668.length co11)) (fun _ hk => hk.1.2), (bb2_ HB GE662 GE663)⟩
def qC.f (k : Nat) (a0_0 : Bool) (l0_1 : List Int) (l0_2 : List Int) : Option (Bool × List Int × List Int × Int) := (vV.f k a0_0 l0_1 l0_2).bind fun t673 => (if t673 = true then ((zF.f a0_0 l0_1 l0_2).bind fun t674 => (if t674 = true then (some (false, ([] : List Int), ([] : List Int), 30)) else ((zD.f l0_2).bind fun t675 => ((zD.f l0_1).bind fun t678 => (some (a0_0, t675, t678, 0)))))) else (some (false, ([] : List Int), ([] : List Int), 1)))
theorem qC.mono : ∀ a0 a1 a2 k, LeO (qC.f k a0 a1 a2) (qC.f (k + 1) a0 a1 a2) := by
 intro a0 a1 a2 k
 unfold qC.f
 repeat' first
   | (with_reducible exact vV.mono _ _ _ _)
   | (with_reducible exact LeO.refl _)
   | (with_reducible exact LeO.none _)
   | (with_reducible refine LeO.ite ?_ ?_)
   | (with_reducible refine LeO.bind ?_ (fun _ => ?_))
def qC.T5 : Bool × List (List Nat × List Nat) := (true, [([], []), ([0], [0]), ([], []), ([2], [2]), ([3], [3]), ([], []), ([5], [5]), ([6, 4], [6]), ([1, 4, 7], [1, 4, 7]), ([8, 7, 0, 1, 2, 3, 4, 5, 6, 7, 8], [8]), ([9, 0, 1, 2, 3, 4, 5, 6, 7, 8, 9], [])])
def qC.B5 : List Nat := [0, 1, 0, 4, 12, 0, 32, 124, 255, 511, 1023]
theorem qC.tab5 : rtab .any (opsOf Try.f53 5) = qC.T5 := by kernel_rfl
theorem qC.jIt : jAL qC.T5.2 qC.B5 = true := by kernel_rfl
theorem qC.calls (k : Nat) (a0_0 : Bool) (A0_1 : Option Addr) (c0_1 : Nat) (l0_1 : List Int) (A0_2 : Option Addr) (c0_2 : Nat) (l0_2 : List Int) (r1 : Bool) (r2 : List Int) (r3 : List Int) (r4 : Int) (w : World) (hr0_1 : Kd.C (Kd.int .u64) w A0_1 l0_1.length l0_1) (hc0_1 : l0_1.length ≤ c0_1) (hr0_2 : Kd.C (Kd.int .u64) w A0_2 l0_2.length l0_2) (hc0_2 : l0_2.length ≤ c0_2) (h : qC.f k a0_0 l0_1 l0_2 = some (r1, r2, r3, r4)) :
  Calls Try.prog 53 #[.agg #[.bool a0_0, .slice A0_1 l0_1.length c0_1, .slice A0_2 l0_2.length c0_2]] w fun e w' => ∃ v1_ v2_ : Value, e = .returned (.tuple #[.agg #[.bool r1, v1_, v2_], .int .i64 r4]) ∧ Kd.R (Kd.int .u64) 22 w' w.heap.size (fun k_ => some k_ ≠ (v2_ : Value).ownBlock) v1_ r2 ∧ Kd.R (Kd.int .u64) 22 w' w.heap.size (fun k_ => some k_ ≠ (v1_ : Value).ownBlock) v2_ r3 ∧ Below w.heap.size w w' := by
 have hu44 := Try.underlying44
 have HR0_1 := jA.mk hr0_1
 have HC0_1 := jA.mk hc0_1
 clear hr0_1 hc0_1
 have HR0_2 := jA.mk hr0_2
 have HC0_2 := jA.mk hc0_2
 clear hr0_2 hc0_2
 have HB := jA.mk (Below.refl w.heap.size w)
 have H : ((vV.f k a0_0 l0_1 l0_2).bind fun t673 => (if t673 = true then ((zF.f a0_0 l0_1 l0_2).bind fun t674 => (if t674 = true then (some (false, ([] : List Int), ([] : List Int), 30)) else ((zD.f l0_2).bind fun t675 => ((zD.f l0_1).bind fun t678 => (some (a0_0, t675, t678, 0)))))) else (some (false, ([] : List Int), ([] : List Int), 1)))) = some (r1, r2, r3, r4) := h
 clear h
 obtain ⟨t673, A2, H⟩ := oc_ H
 try dsimp only at H
 by_cases c3 : t673 = true
 ·
  subst c3
  replace H := ip_ H
  obtain ⟨t674, A4, H⟩ := oc_ H
  try dsimp only at H
  by_cases c5 : t674 = true
  ·
   subst c5
   replace H := ip_ H
   simp only [Option.some.injEq, Prod.mk.injEq] at H
   obtain ⟨rfl, rfl, rfl, rfl⟩ := H
   go_enter Try.func53, Try.ntmps53
   go_wp2_with (first | ((with_reducible refine jX (N := 1) rfl ?_); refine bx_ 1 #[.bool a0_0, .slice A0_1 l0_1.length c0_1, .slice A0_2 l0_2.length c0_2] 44 ?_; intro gb671 hg w6 hbox hb; have BK671 := jA.mk (hbox); have GW671 := jA.mk ((by rw [hg]; exact (jC (bb_ HB)) : w.heap.size ≤ gb671)); have GE671 := GW671; replace HB := bs_ HB hb; clear hb hbox hg) | ((with_reducible refine jX (N := 2) rfl ?_); refine bx_ 2 #[.bool false, .slice none 0 0, .slice none 0 0] 44 ?_; intro gb672 hg w7 hbox hb; have BK672 := jA.mk (hbox); have GW672 := jA.mk ((by rw [hg]; exact (jC (bb1_ HB GE671)) : w.heap.size ≤ gb672)); have GE672 := GW672; replace HB := jA.mk (jI (bb1_ HB GE671) hb); have NB671_672 := jA.mk ((by rw [hg]; exact nlt_ BK671 : gb671 ≠ gb672)); have NB672_671 := jA.mk ((by rw [hg]; exact ngt_ BK671 : gb672 ≠ gb671)); replace BK671 := bk_ BK671 hb; clear hb hbox hg; have hnb8 := NB671_672.out; have hnc8 := NB672_671.out; obtain ⟨hcz9_0, hcz9_1, hcz9_2, hfz9_0, hfz9_1, hfz9_2⟩ := bf3_ BK671) | ((with_reducible refine jH (f := 27) rfl ?_); refine gl_ (some 6) Try.func27 #[.agg #[.bool a0_0, .slice A0_1 l0_1.length c0_1, .slice A0_2 l0_2.length c0_2]] ?_; (with_reducible refine (vV.calls k a0_0 _ _ l0_1 _ _ l0_2 true _ ?side1 ?side2 ?side3 ?side4 A2.out).mono ?_); (case side1 => exact cb_ HR0_1 HB); (case side2 => exact HC0_1.out); (case side3 => exact cb_ HR0_2 HB); (case side4 => exact HC0_2.out); rintro e w10 ⟨rfl, hb⟩; refine ⟨_, rfl, ?_⟩; replace BK671 := bk_ BK671 hb; replace BK672 := bk_ BK672 hb; replace HB := jA.mk (jI (bb2_ HB GE671 GE672) hb); obtain ⟨hcz11_0, hcz11_1, hcz11_2, hfz11_0, hfz11_1, hfz11_2⟩ := bf3_ BK671) | ((with_reducible refine jH (f := 54) rfl ?_); refine gl_ (some 11) Try.func54 #[.agg #[.bool a0_0, .slice A0_1 l0_1.length c0_1, .slice A0_2 l0_2.length c0_2]] ?_; (with_reducible refine (zF.calls a0_0 _ _ l0_1 _ _ l0_2 true _ ?side1 ?side2 ?side3 ?side4 A4.out).mono ?_); (case side1 => exact cb_ HR0_1 HB); (case side2 => exact HC0_1.out); (case side3 => exact cb_ HR0_2 HB); (case side4 => exact HC0_2.out); rintro e w12 ⟨rfl, hb⟩; refine ⟨_, rfl, ?_⟩; replace BK671 := bk_ BK671 hb; replace BK672 := bk_ BK672 hb; replace HB := jA.mk (jI (bb2_ HB GE671 GE672) hb); obtain ⟨hcz13_0, hcz13_1, hcz13_2, hfz13_0, hfz13_1, hfz13_2⟩ := bf3_ BK672))
   refine bodyPost_ret (zn rfl _ _ gb672 44 #[.bool false, .slice none 0 0, .slice none 0 0] (0, 0) _ rfl (by refine pk_ ?_; refine jm (cs := #[.bool false, .slice none 0 0, .slice none 0 0]) ?_ 2 _ rs_; refine pk_ ?_; refine jm (cs := #[.bool false, .slice none 0 0, .slice none 0 0]) ?_ 1 _ rs_; refine pk_ ?_; refine jm (cs := #[.bool false, .slice none 0 0, .slice none 0 0]) ?_ 0 _ rs_; refine pk_ ?_; exact BK672.out) Try.underlying44 rfl kr_) rfl ?_
   exact ⟨_, _, ew_, nl_, nl_, (bb2_ HB GE671 GE672)⟩
  ·
   replace c5 := Bool.eq_false_iff.mpr c5
   subst c5
   replace H := in_ H
   obtain ⟨t675, A14, H⟩ := oc_ H
   try dsimp only at H
   obtain ⟨t678, A15, H⟩ := oc_ H
   try dsimp only at H
   simp only [Option.some.injEq, Prod.mk.injEq] at H
   obtain ⟨rfl, rfl, rfl, rfl⟩ := H
   go_enter Try.func53, Try.ntmps53
   try go_wp2_with (first | ((with_reducible refine jX (N := 1) rfl ?_); refine bx_ 1 #[.bool a0_0, .slice A0_1 l0_1.length c0_1, .slice A0_2 l0_2.length c0_2] 44 ?_; intro gb671 hg w16 hbox hb; have BK671 := jA.mk (hbox); have GW671 := jA.mk ((by rw [hg]; exact (jC (bb_ HB)) : w.heap.size ≤ gb671)); have GE671 := GW671; replace HB := bs_ HB hb; clear hb hbox hg) | ((with_reducible refine jX (N := 2) rfl ?_); refine bx_ 2 #[.bool false, .slice none 0 0, .slice none 0 0] 44 ?_; intro gb672 hg w17 hbox hb; have BK672 := jA.mk (hbox); have GW672 := jA.mk ((by rw [hg]; exact (jC (bb1_ HB GE671)) : w.heap.size ≤ gb672)); have GE672 := GW672; replace HB := jA.mk (jI (bb1_ HB GE671) hb); have NB671_672 := jA.mk ((by rw [hg]; exact nlt_ BK671 : gb671 ≠ gb672)); have NB672_671 := jA.mk ((by rw [hg]; exact ngt_ BK671 : gb672 ≠ gb671)); replace BK671 := bk_ BK671 hb; clear hb hbox hg; have hnb18 := NB671_672.out; have hnc18 := NB672_671.out; obtain ⟨hcz19_0, hcz19_1, hcz19_2, hfz19_0, hfz19_1, hfz19_2⟩ := bf3_ BK671) | ((with_reducible refine jH (f := 27) rfl ?_); refine gl_ (some 6) Try.func27 #[.agg #[.bool a0_0, .slice A0_1 l0_1.length c0_1, .slice A0_2 l0_2.length c0_2]] ?_; (with_reducible refine (vV.calls k a0_0 _ _ l0_1 _ _ l0_2 true _ ?side1 ?side2 ?side3 ?side4 A2.out).mono ?_); (case side1 => exact cb_ HR0_1 HB); (case side2 => exact HC0_1.out); (case side3 => exact cb_ HR0_2 HB); (case side4 => exact HC0_2.out); rintro e w20 ⟨rfl, hb⟩; refine ⟨_, rfl, ?_⟩; replace BK671 := bk_ BK671 hb; replace BK672 := bk_ BK672 hb; replace HB := jA.mk (jI (bb2_ HB GE671 GE672) hb); obtain ⟨hcz21_0, hcz21_1, hcz21_2, hfz21_0, hfz21_1, hfz21_2⟩ := bf3_ BK671) | ((with_reducible refine jH (f := 54) rfl ?_); refine gl_ (some 11) Try.func54 #[.agg #[.bool a0_0, .slice A0_1 l0_1.length c0_1, .slice A0_2 l0_2.length c0_2]] ?_; (with_reducible refine (zF.calls a0_0 _ _ l0_1 _ _ l0_2 false _ ?side1 ?side2 ?side3 ?side4 A4.out).mono ?_); (case side1 => exact cb_ HR0_1 HB); (case side2 => exact HC0_1.out); (case side3 => exact cb_ HR0_2 HB); (case side4 => exact HC0_2.out); rintro e w22 ⟨rfl, hb⟩; refine ⟨_, rfl, ?_⟩; replace BK671 := bk_ BK671 hb; replace BK672 := bk_ BK672 hb; replace HB := jA.mk (jI (bb2_ HB GE671 GE672) hb)))
   have n0_ := jA.mk (vF BK671.out)
   have n1_ := jA.mk (vF BK672.out)
   have n2_ := jA.mk (zY HB.out)
   clear BK671
   clear BK672
   clear HB
   have BK671 := n0_
   have BK672 := n1_
   have HB := n2_
   clear n0_ n1_ n2_
   refine jAU (n := 11) (S := fun w' => w'.cell? ⟨gb671, 0, none⟩ = some (.bool a0_0) ∧ w'.cell? ⟨gb671, 1, none⟩ = some (.slice A0_1 l0_1.length c0_1) ∧ w'.cell? ⟨gb671, 2, none⟩ = some (.slice A0_2 l0_2.length c0_2)) (ds := []) #[false, false, false, false, false, false, false, false, false, false, false] kr_ rfl rfl ⟨(jB BK671.out 0).trans rfl, (jB BK671.out 1).trans rfl, (jB BK671.out 2).trans rfl⟩ (fun hHeld => ?_); refine qc qC.tab5 qC.jIt (fun HT_ HW_ => ?_)
   generalize w22.drew = w23 at BK671 BK672 HB hHeld ⊢
   refine pu_ 0 (some 13) (ba_ 11 1) (jd HT_.out kr_) ?_
   refine pu_ 2 (some 15) (ba_ 11 5) (jd HT_.out kr_) ?_
   refine pu_ 5 (some 18) (ba_ 11 37) (jd HT_.out kr_) ?_
   refine tk3_ 1 (some 14) (ba_ 11 39) (jv HT_.out HW_.out kr_) hHeld ?_
   refine tk3_ 3 (some 16) (ba_ 11 47) (jv HT_.out HW_.out kr_) hHeld ?_
   refine tk3_ 6 (some 19) (ba_ 11 111) (jv HT_.out HW_.out kr_) hHeld ?_
   refine one_ (i := 4) (N := some 17) (ba_ 11 127) rfl rfl (vv HT_.out kr_) (by decide) (fun K hK => ?_)
   refine jAQ Try.func90 kr_ rfl #[.slice A0_2 l0_2.length c0_2] (by rfl) rfl rfl (by (try simp only [List.map_toArray, List.map_cons, List.map_nil]); first | done | rfl | (simp only [List.length_drop, List.length_take]; rfl)) ?_
   with_reducible refine (zD.calls _ _ l0_2 t675 _ ?side1 ?side2 A14.out).mono ?_
   (case side1 => exact cb_ HR0_2 HB)
   (case side2 => exact HC0_2.out)
   rintro e w24 ⟨v676, rfl, ho0, hb⟩
   refine ⟨_, rfl, ?_⟩
   have n0_ := jA.mk (Kd.jN ho0 (jC (bb2_ HB GE671 GE672)))
   have n1_ := bk_ BK671 hb
   have n2_ := bk_ BK672 hb
   have n3_ := jA.mk (jI (bb2_ HB GE671 GE672) hb)
   clear BK671
   clear BK672
   clear HB
   have HO677 := n0_
   have BK671 := n1_
   have BK672 := n2_
   have HB := n3_
   clear n0_ n1_ n2_ n3_
   (try clear hb)
   (try clear hb2)
   (try clear hk)
   (try clear hi)
   (try clear ho0)
   refine hK.out _ _ ⟨(jB BK671.out 0).trans rfl, (jB BK671.out 1).trans rfl, (jB BK671.out 2).trans rfl⟩ (fun hHeld => ?_)
   clear hK K
   refine ns_ 17 ?_
   refine one_ (i := 7) (N := some 20) (ba_ 11 255) rfl rfl (vv HT_.out kr_) (by decide) (fun K hK => ?_)
   refine jAQ Try.func90 kr_ rfl #[.slice A0_1 l0_1.length c0_1] (by rfl) rfl rfl (by (try simp only [List.map_toArray, List.map_cons, List.map_nil]); first | done | rfl | (simp only [List.length_drop, List.length_take]; rfl)) ?_
   with_reducible refine (zD.calls _ _ l0_1 t678 _ ?side1 ?side2 A15.out).mono ?_
   (case side1 => exact cb_ HR0_1 HB)
   (case side2 => exact HC0_1.out)
   rintro e w25 ⟨v679, rfl, ho0, hb⟩
   refine ⟨_, rfl, ?_⟩
   have n0_ := re_ HO677 ho0 hb
   have n1_ := jA.mk (Kd.jN (Kd.jL ho0 (Kd.R_lt (rR_ HO677))) (jC (bb2_ HB GE671 GE672)))
   have n2_ := bk_ BK671 hb
   have n3_ := bk_ BK672 hb
   have n4_ := jA.mk (jI (bb2_ HB GE671 GE672) hb)
   clear HO677
   clear BK671
   clear BK672
   clear HB
   have HO677 := n0_
   have HO680 := n1_
   have BK671 := n2_
   have BK672 := n3_
   have HB := n4_
   clear n0_ n1_ n2_ n3_ n4_
   (try clear hb)
   (try clear hb2)
   (try clear hk)
   (try clear hi)
   (try clear ho0)
   obtain ⟨Ao26, co26, eo26⟩ := Kd.jV HO680.out
   (first | subst eo26 | (injection eo26 with f1_ f2_ f3_; have f4_ := f1_.symm; have f5_ := f3_.symm; clear f1_ f2_ f3_; subst f4_; subst f5_))
   obtain ⟨Ao27, co27, eo27⟩ := Kd.jV HO677.out
   (first | subst eo27 | (injection eo27 with f1_ f2_ f3_; have f4_ := f1_.symm; have f5_ := f3_.symm; clear f1_ f2_ f3_; subst f4_; subst f5_))
   refine hK.out _ _ ⟨(jB BK671.out 0).trans rfl, (jB BK671.out 1).trans rfl, (jB BK671.out 2).trans rfl⟩ (fun hHeld => ?_)
   clear hK K
   refine ns_ 20 ?_
   refine pu_ 8 (some 21) (ba_ 11 511) (jd HT_.out kr_) ?_
   refine one_ (i := 9) (N := none) (ba_ 11 1023) rfl rfl (vv HT_.out kr_) (by decide) (fun K hK => ?_)
   have hs28 : w25.cell? ⟨gb672, 0, none⟩ = some (.bool false) := (jB BK672.out 0).trans rfl
   have hfs28 := jg BK672.out 0
   have hns28_0 := NB671_672.out
   have hms28_0 := NB672_671.out
   have hs29 : w25.cell? ⟨gb672, 1, none⟩ = some (.slice none 0 0) := (jB BK672.out 1).trans rfl
   have hfs29 := jg BK672.out 1
   have hns29_0 := NB671_672.out
   have hms29_0 := NB672_671.out
   have hs30 : w25.cell? ⟨gb672, 2, none⟩ = some (.slice none 0 0) := (jB BK672.out 2).trans rfl
   have hfs30 := jg BK672.out 2
   have hns30_0 := NB671_672.out
   have hms30_0 := NB672_671.out
   refine jCN (w1 := ?_) (by rfl) rfl ?_ ?_
   rotate_left
   ·
    go_simp
    rfl
   refine hK.out _ _ ⟨((cell_far (p := ⟨gb672, _, none⟩) NB671_672.out _).trans (((cell_far (p := ⟨gb672, _, none⟩) NB671_672.out _).trans (((cell_far (p := ⟨gb672, _, none⟩) NB671_672.out _).trans (hHeld.1)))))), ((cell_far (p := ⟨gb672, _, none⟩) NB671_672.out _).trans (((cell_far (p := ⟨gb672, _, none⟩) NB671_672.out _).trans (((cell_far (p := ⟨gb672, _, none⟩) NB671_672.out _).trans (hHeld.2.1)))))), ((cell_far (p := ⟨gb672, _, none⟩) NB671_672.out _).trans (((cell_far (p := ⟨gb672, _, none⟩) NB671_672.out _).trans (((cell_far (p := ⟨gb672, _, none⟩) NB671_672.out _).trans (hHeld.2.2))))))⟩ (fun hHeld => ?_)
   clear hK K
   refine pu_ 10 (some 3) (ba_ 11 2047) (jd HT_.out kr_) ?_
   refine jAv (jAn HT_.out kr_) ?_
   try go_wp2
   refine bodyPost_ret (zn rfl _ _ gb672 44 #[.bool a0_0, .slice Ao27 t675.length co27, .slice Ao26 t678.length co26] (0, 0) _ rfl (by refine pk_ ?_; refine jm (cs := #[.bool a0_0, .slice Ao27 t675.length co27, .slice none 0 0]) ?_ 2 _ rs_; refine pk_ ?_; refine jm (cs := #[.bool a0_0, .slice none 0 0, .slice none 0 0]) ?_ 1 _ rs_; refine pk_ ?_; refine jm (cs := #[.bool false, .slice none 0 0, .slice none 0 0]) ?_ 0 _ rs_; refine pk_ ?_; exact BK672.out) Try.underlying44 rfl kr_) rfl ?_
   exact ⟨_, _, ew_, by refine pR_ ?_; exact Kd.jT (Kd.vQ (p := ⟨gb672, 2, none⟩) (Kd.vQ (p := ⟨gb672, 1, none⟩) (Kd.vQ (p := ⟨gb672, 0, none⟩) (Kd.jZ HO677.out BK672.out (by decide)) (fun _ hk => hk.2) (.bool a0_0)) (fun _ hk => hk.2) (.slice Ao27 t675.length co27)) (fun _ hk => hk.2) (.slice Ao26 t678.length co26)) (fun _ hk => hk.1.2), by refine pR_ ?_; exact Kd.jT (Kd.vQ (p := ⟨gb672, 2, none⟩) (Kd.vQ (p := ⟨gb672, 1, none⟩) (Kd.vQ (p := ⟨gb672, 0, none⟩) (Kd.jZ HO680.out BK672.out (by decide)) (fun _ hk => hk.2) (.bool a0_0)) (fun _ hk => hk.2) (.slice Ao27 t675.length co27)) (fun _ hk => hk.2) (.slice Ao26 t678.length co26)) (fun _ hk => hk.1.2), (bb2_ HB GE671 GE672)⟩
 ·
  replace c3 := Bool.eq_false_iff.mpr c3
  subst c3
  replace H := in_ H
  simp only [Option.some.injEq, Prod.mk.injEq] at H
  obtain ⟨rfl, rfl, rfl, rfl⟩ := H
  go_enter Try.func53, Try.ntmps53
  go_wp2_with (first | ((with_reducible refine jX (N := 1) rfl ?_); refine bx_ 1 #[.bool a0_0, .slice A0_1 l0_1.length c0_1, .slice A0_2 l0_2.length c0_2] 44 ?_; intro gb671 hg w31 hbox hb; have BK671 := jA.mk (hbox); have GW671 := jA.mk ((by rw [hg]; exact (jC (bb_ HB)) : w.heap.size ≤ gb671)); have GE671 := GW671; replace HB := bs_ HB hb; clear hb hbox hg) | ((with_reducible refine jX (N := 2) rfl ?_); refine bx_ 2 #[.bool false, .slice none 0 0, .slice none 0 0] 44 ?_; intro gb672 hg w32 hbox hb; have BK672 := jA.mk (hbox); have GW672 := jA.mk ((by rw [hg]; exact (jC (bb1_ HB GE671)) : w.heap.size ≤ gb672)); have GE672 := GW672; replace HB := jA.mk (jI (bb1_ HB GE671) hb); have NB671_672 := jA.mk ((by rw [hg]; exact nlt_ BK671 : gb671 ≠ gb672)); have NB672_671 := jA.mk ((by rw [hg]; exact ngt_ BK671 : gb672 ≠ gb671)); replace BK671 := bk_ BK671 hb; clear hb hbox hg; have hnb33 := NB671_672.out; have hnc33 := NB672_671.out; obtain ⟨hcz34_0, hcz34_1, hcz34_2, hfz34_0, hfz34_1, hfz34_2⟩ := bf3_ BK671) | ((with_reducible refine jH (f := 27) rfl ?_); refine gl_ (some 6) Try.func27 #[.agg #[.bool a0_0, .slice A0_1 l0_1.length c0_1, .slice A0_2 l0_2.length c0_2]] ?_; (with_reducible refine (vV.calls k a0_0 _ _ l0_1 _ _ l0_2 false _ ?side1 ?side2 ?side3 ?side4 A2.out).mono ?_); (case side1 => exact cb_ HR0_1 HB); (case side2 => exact HC0_1.out); (case side3 => exact cb_ HR0_2 HB); (case side4 => exact HC0_2.out); rintro e w35 ⟨rfl, hb⟩; refine ⟨_, rfl, ?_⟩; replace BK671 := bk_ BK671 hb; replace BK672 := bk_ BK672 hb; replace HB := jA.mk (jI (bb2_ HB GE671 GE672) hb); obtain ⟨hcz36_0, hcz36_1, hcz36_2, hfz36_0, hfz36_1, hfz36_2⟩ := bf3_ BK672))
  refine bodyPost_ret (zn rfl _ _ gb672 44 #[.bool false, .slice none 0 0, .slice none 0 0] (0, 0) _ rfl (by refine pk_ ?_; refine jm (cs := #[.bool false, .slice none 0 0, .slice none 0 0]) ?_ 2 _ rs_; refine pk_ ?_; refine jm (cs := #[.bool false, .slice none 0 0, .slice none 0 0]) ?_ 1 _ rs_; refine pk_ ?_; refine jm (cs := #[.bool false, .slice none 0 0, .slice none 0 0]) ?_ 0 _ rs_; refine pk_ ?_; exact BK672.out) Try.underlying44 rfl kr_) rfl ?_
  exact ⟨_, _, ew_, nl_, nl_, (bb2_ HB GE671 GE672)⟩
end Go.Proofs.Ytijgeonhbmgikaa.PORatioField
