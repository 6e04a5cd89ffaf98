-- printed (pr.py)
import Derived.Test.YtijgeonhbmgikaaPORatioSumsx0
import Derived.Test.YtijgeonhbmgikaaPORatioSumsx10
namespace Go.Proofs.Ytijgeonhbmgikaa.PORatioSums
open Go.RowKit Go.Proofs.YtijgeonhbmgikaaN Go.Proofs.YtijgeonhbmgikaaW.PrintWords Go.Proofs.YtijgeonhbmgikaaW.PrintLast Go.Proofs.YtijgeonhbmgikaaW.PrintMore
attribute [local go_sem] qV qR qy qx qA zy qU qP
set_option maxHeartbeats 8000000
set_option maxRecDepth 100000

/-! ### vG: function 37 -/
def vG.l0 : Nat → List (S44) → Int → Int → Bool → List Int → List Int → Option (Bool × List Int × List Int × Int)
 | 0, _, _, _, _, _, _ => none
 | k + 1, x7, x8, x9, x398000, x398001, x398002 => if x9 < x8 then (if 0 ≤ x9 then (if x9 < (x7.length : Int) then ((vJ.f k x398000 x398001 x398002 ((vL x7 x9).f0) ((vL x7 x9).f1) ((vL x7 x9).f2)).bind fun bt407 => (if bt407.2.2.2 = 0 then (vG.l0 k x7 x8 (wrap64 (x9 + 1)) bt407.1 bt407.2.1 bt407.2.2.1) else (some (false, ([] : List Int), ([] : List Int), bt407.2.2.2)))) else (none)) else (none)) else (some (x398000, x398001, x398002, 0))
def vG.f (k : Nat) (l0 : List (S44)) : Option (Bool × List Int × List Int × Int) := (zH.f 0).bind fun bt398 => (vG.l0 k l0 (l0.length : Int) 0 bt398.1 bt398.2.1 bt398.2.2)
theorem vG.vk : ∀ k, (∀ y0 y1 y2 y3 y4 y5, LeO (vG.l0 k y0 y1 y2 y3 y4 y5) (vG.l0 (k + 1) y0 y1 y2 y3 y4 y5))
 | 0 => fun _ _ _ _ _ _ r h => by simp [vG.l0] at h
 | k + 1 => by
  have ih0 := vG.vk k
  ·
   intro y0 y1 y2 y3 y4 y5
   unfold vG.l0
   repeat' first
   | (with_reducible exact ih0 _ _ _ _ _ _)
   | (with_reducible exact vJ.mono _ _ _ _ _ _ _)
   | (with_reducible exact LeO.refl _)
   | (with_reducible exact LeO.none _)
   | (with_reducible refine LeO.ite ?_ ?_)
   | (with_reducible refine LeO.bind ?_ (fun _ => ?_))
theorem vG.mono : ∀ a0 k, LeO (vG.f k a0) (vG.f (k + 1) a0) := by
 intro a0 k
 have ih0 := vG.vk k
 unfold vG.f
 repeat' first
   | (with_reducible exact ih0 _ _ _ _ _ _)
   | (with_reducible exact vJ.mono _ _ _ _ _ _ _)
   | (with_reducible exact LeO.refl _)
   | (with_reducible exact LeO.none _)
   | (with_reducible refine LeO.ite ?_ ?_)
   | (with_reducible refine LeO.bind ?_ (fun _ => ?_))
theorem vG.calls (k : Nat) (A0 : Option Addr) (c0 : Nat) (l0 : List (S44)) (r1 : Bool) (r2 : List Int) (r3 : List Int) (r4 : Int) (w : World) (hr0 : Kd.C k44 w A0 l0.length l0) (hc0 : l0.length ≤ c0) (h : vG.f k l0 = some (r1, r2, r3, r4)) :
  Calls Try.prog 37 #[.slice A0 l0.length c0] w fun e w' => ∃ v1_ v2_ : Value, e = .returned (.tuple #[.agg #[.bool r1, v1_, v2_], .int .i64 r4]) ∧ Kd.R (Kd.int .u64) 22 w' w.heap.size (fun k_ => some k_ ≠ (v2_ : Value).ownBlock) v1_ r2 ∧ Kd.R (Kd.int .u64) 22 w' w.heap.size (fun k_ => some k_ ≠ (v1_ : Value).ownBlock) v2_ r3 ∧ Below w.heap.size w w' := by
 have hu44 := Try.underlying44
 have HR0 := jA.mk hr0
 have HC0 := jA.mk hc0
 clear hr0 hc0
 have HB := jA.mk (Below.refl w.heap.size w)
 have H : ((zH.f 0).bind fun bt398 => (vG.l0 k l0 (l0.length : Int) 0 bt398.1 bt398.2.1 bt398.2.2)) = some (r1, r2, r3, r4) := h
 clear h
 replace H := ob_ H
 obtain ⟨⟨t398, t399, t402⟩, A20, H⟩ := H
 try dsimp only at H
 have A2 := jA.mk A20
 clear A20
 have H' := jA.mk H
 clear H
 go_enter Try.func37, Try.ntmps37
 go_wp2_with (first | ((with_reducible refine jl (N := 2) rfl ?_); refine zA ?hg (N := 2) ?hd (cs := #[.bool false, .slice none 0 0, .slice none 0 0]) (t := 44) ?hr ?_; (case hd => rfl); (case hg => rfl); (case hr => exact gs_); intro gb397 hg w3 hbox hb; have n0_ := jA.mk (jC (bb_ HB) hb); have n1_ := jA.mk (hbox); have n2_ := jA.mk ((by rw [hg]; exact (jB (bb_ HB)) : w.heap.size ≤ gb397)); have n3_ := jA.mk ((by rw [hg]; exact (jB (bb_ HB)) : w.heap.size ≤ gb397)); clear HB; have HB := n0_; have BK397 := n1_; have GW397 := n2_; have GE397 := n3_; clear n0_ n1_ n2_ n3_ hb hbox hg) | ((with_reducible refine jJ (f := 39) rfl ?_); refine jr (some 6) rfl rfl Try.func39 kr_ rfl #[.int .i64 0] rfl mt_ ?_; (with_reducible refine (zH.calls 0 t398 t399 t402 _ A2.out).mono ?_); rintro e w4 ⟨v400, v403, rfl, ho0, ho1, hb⟩; refine ⟨_, rfl, ?_⟩; have n0_ := jA.mk (Kd.jS ho0 (jB (bb1_ HB GE397))); have n1_ := jA.mk (Kd.jS ho1 (jB (bb1_ HB GE397))); have n2_ := jA.mk (bl_ BK397 hb); have n3_ := jA.mk (jC (bb1_ HB GE397) hb); clear BK397 HB; have HO401 := n0_; have HO404 := n1_; have BK397 := n2_; have HB := n3_; clear n0_ n1_ n2_ n3_; have hcz5_0 : w4.cell? ⟨gb397, 0, none⟩ = some (.bool false) := (jF BK397.out 0).trans rfl; have hcz5_1 : w4.cell? ⟨gb397, 1, none⟩ = some (.slice none 0 0) := (jF BK397.out 1).trans rfl; have hcz5_2 : w4.cell? ⟨gb397, 2, none⟩ = some (.slice none 0 0) := (jF BK397.out 2).trans rfl; have hfz5_0 := jE BK397.out 0; have hfz5_1 := jE BK397.out 1; have hfz5_2 := jE BK397.out 2; obtain ⟨Ao6, co6, eo6⟩ := Kd.jc HO401.out; subst eo6; obtain ⟨Ao7, co7, eo7⟩ := Kd.jc HO404.out; subst eo7))
 go_loopg [9] k (fun kq v9 w' => ∃ (x9_1 : Int) (x398000_1 : Bool) (x398001_1 : List Int) (x398002_1 : List Int) (u398001 : Value) (u398002 : Value), v9 = .int .i64 x9_1 ∧ jA (vG.l0 kq l0 (l0.length : Int) x9_1 x398000_1 x398001_1 x398002_1 = some (r1, r2, r3, r4)) ∧ jA (kq ≤ k) ∧ jA (Kd.R (Kd.int .u64) 22 w' w.heap.size (fun k_ => some k_ ≠ (u398002 : Value).ownBlock) u398001 x398001_1) ∧ jA (Kd.R (Kd.int .u64) 22 w' w.heap.size (fun k_ => some k_ ≠ (u398001 : Value).ownBlock) u398002 x398002_1) ∧ jA (w'.heap[gb397]? = some (.cells #[.bool x398000_1, u398001, u398002] 44 (0, 0))) ∧ jA (Below w.heap.size w w'))
 case atStart => exact ⟨(0), (t398), (t399), (t402), (.slice Ao6 t399.length co6), (.slice Ao7 t402.length co7), sd_, H', ⟨Nat.le_refl _⟩, ⟨by (with_reducible repeat (first | apply Kd.zQ | apply Kd.zU | apply Kd.ze)); exact Kd.jP (Kd.ji (p := ⟨gb397, 2, none⟩) (Kd.ji (p := ⟨gb397, 1, none⟩) (Kd.ji (p := ⟨gb397, 0, none⟩) (Kd.jW HO401.out BK397.out (by decide)) (fun _ hk => hk.2) (.bool t398)) (fun _ hk => hk.2) (.slice Ao6 t399.length co6)) (fun _ hk => hk.2) (.slice Ao7 t402.length co7)) (fun _ hk => hk.1)⟩, ⟨by (with_reducible repeat (first | apply Kd.zQ | apply Kd.zU | apply Kd.ze)); exact Kd.jP (Kd.ji (p := ⟨gb397, 2, none⟩) (Kd.ji (p := ⟨gb397, 1, none⟩) (Kd.ji (p := ⟨gb397, 0, none⟩) (Kd.jW HO404.out BK397.out (by decide)) (fun _ hk => hk.2) (.bool t398)) (fun _ hk => hk.2) (.slice Ao6 t399.length co6)) (fun _ hk => hk.2) (.slice Ao7 t402.length co7)) (fun _ hk => hk.1)⟩, ⟨by (with_reducible repeat (first | refine jAE ?_ _ | refine zW ?_ | refine za ?_ _)); refine vD (cs := #[.bool t398, .slice Ao6 t399.length co6, .slice none 0 0]) ?_ 2 _ rs_; refine pk_ ?_; refine vD (cs := #[.bool t398, .slice none 0 0, .slice none 0 0]) ?_ 1 _ rs_; refine pk_ ?_; refine vD (cs := #[.bool false, .slice none 0 0, .slice none 0 0]) ?_ 0 _ rs_; refine pk_ ?_; exact BK397.out⟩, ⟨(bb1_ HB GE397)⟩⟩
 case round =>
  clear H'
  try clear p2
  try clear c3
  try clear hcz5_0
  try clear hcz5_1
  try clear hcz5_2
  try clear hfz5_0
  try clear hfz5_1
  try clear hfz5_2
  obtain ⟨x9_1, x398000_1, x398001_1, x398002_1, u398001, u398002, rfl, HA, HK1, HO_398001, HO_398002, BK397, HB⟩ := hrel
  cases gk with
  | zero => exact absurd HA.out (by simp [vG.l0])
  | succ k1 =>
   have H := HA.out
   clear HA
   simp only [vG.l0] at H
   by_cases c8 : x9_1 < (l0.length : Int)
   ·
    rw [if_pos c8] at H
    have c8b0 := decide_eq_true c8
    clear c8
    by_cases c9 : 0 ≤ x9_1
    ·
     rw [if_pos c9] at H
     have c9b0 := decide_eq_true c9
     clear c9
     by_cases c10 : x9_1 < (l0.length : Int)
     ·
      rw [if_pos c10] at H
      have c10b0 := decide_eq_true c10
      clear c10
      replace H := ob_ H
      obtain ⟨⟨t407, t408, t411, t414⟩, A110, H⟩ := H
      try dsimp only at H
      have A11 := jA.mk A110
      clear A110
      by_cases c12 : t414 = 0
      ·
       rw [if_pos c12] at H
       have c12b0 := beq_iff_eq.mpr c12
       have c12b1 := bne_eq_false_iff_eq.mpr c12
       clear c12
       have H' := jA.mk H
       clear H
       have p405 : 0 ≤ (x9_1 : Int) := of_decide_eq_true am_
       have q405 : x9_1 < (l0.length : Int) := of_decide_eq_true am_
       obtain ⟨ad405, A405_1, c405_1, A405_2, c405_2, e405, hx405_0, hx405_1, hx405_2, hl405_1, hi405_1, hl405_2, hi405_2⟩ := jHo HR0.out x9_1 p405 q405
       cases e405
       replace hx405_0 := (HB.out.cell (World.block_lt_of_cell? w _ hx405_0)).trans hx405_0
       replace hx405_1 := (HB.out.cell (World.block_lt_of_cell? w _ hx405_1)).trans hx405_1
       replace hx405_2 := (HB.out.cell (World.block_lt_of_cell? w _ hx405_2)).trans hx405_2
       have HR405_1 := jA.mk hi405_1
       have HC405_1 := jA.mk hl405_1
       clear hi405_1 hl405_1
       have HR405_2 := jA.mk hi405_2
       have HC405_2 := jA.mk hl405_2
       clear hi405_2 hl405_2
       replace p405 := eq_true p405
       replace q405 := eq_true q405
       go_wp2_with (first | ((with_reducible refine jl (N := 5) rfl ?_); refine zA ?hg (N := 5) ?hd (cs := #[.bool false, .slice none 0 0, .slice none 0 0]) (t := 44) ?hr ?_; (case hd => rfl); (case hg => rfl); (case hr => exact gs_); intro gb406 hg w13 hbox hb; have n0_ := jA.mk (Kd.jy (rR_ HO_398001) hb); have n1_ := jA.mk (Kd.jy (rR_ HO_398002) hb); have n2_ := jA.mk (bl_ BK397 hb); have n3_ := jA.mk (jC (bb1_ HB GE397) hb); have n4_ := jA.mk (hbox); have n5_ := jA.mk ((by rw [hg]; exact (jB (bb1_ HB GE397)) : w.heap.size ≤ gb406)); have n6_ := jA.mk ((by rw [hg]; exact (jB (bb1_ HB GE397)) : w.heap.size ≤ gb406)); have n7_ := jA.mk ((by rw [hg]; exact Nat.ne_of_lt (qC (g := gb397) (o := .cells #[.bool x398000_1, u398001, u398002] 44 (0, 0)) (kb_ BK397)) : gb397 ≠ gb406)); have n8_ := jA.mk ((by rw [hg]; exact Nat.ne_of_gt (qC (g := gb397) (o := .cells #[.bool x398000_1, u398001, u398002] 44 (0, 0)) (kb_ BK397)) : gb406 ≠ gb397)); clear HO_398001 HO_398002 BK397 HB; have HO_398001 := n0_; have HO_398002 := n1_; have BK397 := n2_; have HB := n3_; have BK406 := n4_; have GW406 := n5_; have GE406 := n6_; have NB397_406 := n7_; have NB406_397 := n8_; clear n0_ n1_ n2_ n3_ n4_ n5_ n6_ n7_ n8_ hb hbox hg; have hnb14 := NB406_397.out; have hnc14 := NB397_406.out; have hcz15_0 : w13.cell? ⟨gb406, 0, none⟩ = some (.bool false) := (jF BK406.out 0).trans rfl; have hcz15_1 : w13.cell? ⟨gb406, 1, none⟩ = some (.slice none 0 0) := (jF BK406.out 1).trans rfl; have hcz15_2 : w13.cell? ⟨gb406, 2, none⟩ = some (.slice none 0 0) := (jF BK406.out 2).trans rfl; have hfz15_0 := jE BK406.out 0; have hfz15_1 := jE BK406.out 1; have hfz15_2 := jE BK406.out 2; have hcz16_0 : w13.cell? ⟨gb397, 0, none⟩ = some (.bool x398000_1) := (jF BK397.out 0).trans rfl; have hcz16_1 : w13.cell? ⟨gb397, 1, none⟩ = some (u398001) := (jF BK397.out 1).trans rfl; have hcz16_2 : w13.cell? ⟨gb397, 2, none⟩ = some (u398002) := (jF BK397.out 2).trans rfl; have hfz16_0 := jE BK397.out 0; have hfz16_1 := jE BK397.out 1; have hfz16_2 := jE BK397.out 2; obtain ⟨Ao17, co17, eo17⟩ := Kd.jc HO_398001.out; subst eo17; obtain ⟨Ao18, co18, eo18⟩ := Kd.jc HO_398002.out; subst eo18) | ((with_reducible refine jJ (f := 49) rfl ?_); refine jr (some 16) rfl rfl Try.func49 kr_ rfl #[.agg #[.bool x398000_1, .slice Ao17 x398001_1.length co17, .slice Ao18 x398002_1.length co18], .agg #[.bool ((vL l0 x9_1).f0), .slice A405_1 ((vL l0 x9_1).f1).length c405_1, .slice A405_2 ((vL l0 x9_1).f2).length c405_2]] rfl mt_ ?_; (with_reducible refine (vJ.calls k1 x398000_1 _ _ x398001_1 _ _ x398002_1 ((vL l0 x9_1).f0) _ _ ((vL l0 x9_1).f1) _ _ ((vL l0 x9_1).f2) t407 t408 t411 t414 _ ?side1 ?side2 ?side3 ?side4 ?side5 ?side6 ?side7 ?side8 A11.out).mono ?_); (case side1 => refine (Kd.jI (e := 22) (base := w.heap.size) (ok := fun k_ => some k_ ≠ (.slice Ao18 x398002_1.length co18 : Value).ownBlock) (n := x398001_1.length) (c := co17) ?_).2.2; exact (by refine pR_ ?_; exact (Kd.jP (Kd.ji (p := ⟨gb406, 2, none⟩) (Kd.ji (p := ⟨gb406, 1, none⟩) (Kd.ji (p := ⟨gb406, 0, none⟩) (Kd.jW HO_398001.out BK406.out (by decide)) (fun _ hk => hk.2) (.bool ((vL l0 x9_1).f0))) (fun _ hk => hk.2) (.slice A405_1 ((vL l0 x9_1).f1).length c405_1)) (fun _ hk => hk.2) (.slice A405_2 ((vL l0 x9_1).f2).length c405_2)) (fun _ h_ => h_.1)))); (case side2 => exact (Kd.jI HO_398001.out).2.1); (case side3 => refine (Kd.jI (e := 22) (base := w.heap.size) (ok := fun k_ => some k_ ≠ (.slice Ao17 x398001_1.length co17 : Value).ownBlock) (n := x398002_1.length) (c := co18) ?_).2.2; exact (by refine pR_ ?_; exact (Kd.jP (Kd.ji (p := ⟨gb406, 2, none⟩) (Kd.ji (p := ⟨gb406, 1, none⟩) (Kd.ji (p := ⟨gb406, 0, none⟩) (Kd.jW HO_398002.out BK406.out (by decide)) (fun _ hk => hk.2) (.bool ((vL l0 x9_1).f0))) (fun _ hk => hk.2) (.slice A405_1 ((vL l0 x9_1).f1).length c405_1)) (fun _ hk => hk.2) (.slice A405_2 ((vL l0 x9_1).f2).length c405_2)) (fun _ h_ => h_.1)))); (case side4 => exact (Kd.jI HO_398002.out).2.1); (case side5 => exact Kd.je HR405_1.out (bb2_ HB GE397 GE406)); (case side6 => exact HC405_1.out); (case side7 => exact Kd.je HR405_2.out (bb2_ HB GE397 GE406)); (case side8 => exact HC405_2.out); rintro e w19 ⟨v409, v412, rfl, ho0, ho1, hb⟩; refine ⟨_, rfl, ?_⟩; have n0_ := jA.mk (Kd.jP (Kd.zI (Kd.zI (Kd.jAR (by refine pR_ ?_; exact (Kd.jP (Kd.ji (p := ⟨gb406, 2, none⟩) (Kd.ji (p := ⟨gb406, 1, none⟩) (Kd.ji (p := ⟨gb406, 0, none⟩) (Kd.jW HO_398001.out BK406.out (by decide)) (fun _ hk => hk.2) (.bool ((vL l0 x9_1).f0))) (fun _ hk => hk.2) (.slice A405_1 ((vL l0 x9_1).f1).length c405_1)) (fun _ hk => hk.2) (.slice A405_2 ((vL l0 x9_1).f2).length c405_2)) (fun _ h_ => h_.1))) hb) (Kd.jL ho0)) (Kd.jL ho1)) (fun _ h_ => h_.1)); have n1_ := jA.mk (Kd.jP (Kd.zI (Kd.zI (Kd.jAR (by refine pR_ ?_; exact (Kd.jP (Kd.ji (p := ⟨gb406, 2, none⟩) (Kd.ji (p := ⟨gb406, 1, none⟩) (Kd.ji (p := ⟨gb406, 0, none⟩) (Kd.jW HO_398002.out BK406.out (by decide)) (fun _ hk => hk.2) (.bool ((vL l0 x9_1).f0))) (fun _ hk => hk.2) (.slice A405_1 ((vL l0 x9_1).f1).length c405_1)) (fun _ hk => hk.2) (.slice A405_2 ((vL l0 x9_1).f2).length c405_2)) (fun _ h_ => h_.1))) hb) (Kd.jL ho0)) (Kd.jL ho1)) (fun _ h_ => h_.1)); have n2_ := jA.mk (Kd.jS (Kd.jN (Kd.jN ho0 (Kd.R_lt (by refine pR_ ?_; exact (Kd.jP (Kd.ji (p := ⟨gb406, 2, none⟩) (Kd.ji (p := ⟨gb406, 1, none⟩) (Kd.ji (p := ⟨gb406, 0, none⟩) (Kd.jW HO_398001.out BK406.out (by decide)) (fun _ hk => hk.2) (.bool ((vL l0 x9_1).f0))) (fun _ hk => hk.2) (.slice A405_1 ((vL l0 x9_1).f1).length c405_1)) (fun _ hk => hk.2) (.slice A405_2 ((vL l0 x9_1).f2).length c405_2)) (fun _ h_ => h_.1))))) (Kd.R_lt (by refine pR_ ?_; exact (Kd.jP (Kd.ji (p := ⟨gb406, 2, none⟩) (Kd.ji (p := ⟨gb406, 1, none⟩) (Kd.ji (p := ⟨gb406, 0, none⟩) (Kd.jW HO_398002.out BK406.out (by decide)) (fun _ hk => hk.2) (.bool ((vL l0 x9_1).f0))) (fun _ hk => hk.2) (.slice A405_1 ((vL l0 x9_1).f1).length c405_1)) (fun _ hk => hk.2) (.slice A405_2 ((vL l0 x9_1).f2).length c405_2)) (fun _ h_ => h_.1))))) (jB (bb2_ HB GE397 GE406))); have n3_ := jA.mk (Kd.jS (Kd.jN (Kd.jN ho1 (Kd.R_lt (by refine pR_ ?_; exact (Kd.jP (Kd.ji (p := ⟨gb406, 2, none⟩) (Kd.ji (p := ⟨gb406, 1, none⟩) (Kd.ji (p := ⟨gb406, 0, none⟩) (Kd.jW HO_398001.out BK406.out (by decide)) (fun _ hk => hk.2) (.bool ((vL l0 x9_1).f0))) (fun _ hk => hk.2) (.slice A405_1 ((vL l0 x9_1).f1).length c405_1)) (fun _ hk => hk.2) (.slice A405_2 ((vL l0 x9_1).f2).length c405_2)) (fun _ h_ => h_.1))))) (Kd.R_lt (by refine pR_ ?_; exact (Kd.jP (Kd.ji (p := ⟨gb406, 2, none⟩) (Kd.ji (p := ⟨gb406, 1, none⟩) (Kd.ji (p := ⟨gb406, 0, none⟩) (Kd.jW HO_398002.out BK406.out (by decide)) (fun _ hk => hk.2) (.bool ((vL l0 x9_1).f0))) (fun _ hk => hk.2) (.slice A405_1 ((vL l0 x9_1).f1).length c405_1)) (fun _ hk => hk.2) (.slice A405_2 ((vL l0 x9_1).f2).length c405_2)) (fun _ h_ => h_.1))))) (jB (bb2_ HB GE397 GE406))); have n4_ := jA.mk (zC (g := gb397) (o := .cells #[.bool x398000_1, .slice Ao17 x398001_1.length co17, .slice Ao18 x398002_1.length co18] 44 (0, 0)) (by refine pk_ ?_; refine qX ?_ NB397_406.out _; refine pk_ ?_; refine qX ?_ NB397_406.out _; refine pk_ ?_; refine qX ?_ NB397_406.out _; refine pk_ ?_; exact BK397.out) hb); have n5_ := jA.mk (zC (g := gb406) (o := .cells #[.bool ((vL l0 x9_1).f0), .slice A405_1 ((vL l0 x9_1).f1).length c405_1, .slice A405_2 ((vL l0 x9_1).f2).length c405_2] 44 (0, 0)) (by refine pk_ ?_; refine vD (cs := #[.bool ((vL l0 x9_1).f0), .slice A405_1 ((vL l0 x9_1).f1).length c405_1, .slice none 0 0]) ?_ 2 _ rs_; refine pk_ ?_; refine vD (cs := #[.bool ((vL l0 x9_1).f0), .slice none 0 0, .slice none 0 0]) ?_ 1 _ rs_; refine pk_ ?_; refine vD (cs := #[.bool false, .slice none 0 0, .slice none 0 0]) ?_ 0 _ rs_; refine pk_ ?_; exact BK406.out) hb); have n6_ := jA.mk (jC (bb2_ HB GE397 GE406) hb); clear HO_398001 HO_398002 BK397 BK406 HB; have HO_398001 := n0_; have HO_398002 := n1_; have HO410 := n2_; have HO413 := n3_; have BK397 := n4_; have BK406 := n5_; have HB := n6_; clear n0_ n1_ n2_ n3_ n4_ n5_ n6_; have hcz20_0 : w19.cell? ⟨gb397, 0, none⟩ = some (.bool x398000_1) := (jF BK397.out 0).trans rfl; have hcz20_1 : w19.cell? ⟨gb397, 1, none⟩ = some (.slice Ao17 x398001_1.length co17) := (jF BK397.out 1).trans rfl; have hcz20_2 : w19.cell? ⟨gb397, 2, none⟩ = some (.slice Ao18 x398002_1.length co18) := (jF BK397.out 2).trans rfl; have hfz20_0 := jE BK397.out 0; have hfz20_1 := jE BK397.out 1; have hfz20_2 := jE BK397.out 2; obtain ⟨Ao21, co21, eo21⟩ := Kd.jc HO410.out; subst eo21; obtain ⟨Ao22, co22, eo22⟩ := Kd.jc HO413.out; subst eo22))
       go_roundg k1
       case measure => have := HK1.out; omega
       case rel => exact ⟨(wrap64 (x9_1 + 1)), (t407), (t408), (t411), (.slice Ao21 t408.length co21), (.slice Ao22 t411.length co22), sd_, H', ⟨by have := HK1.out; omega⟩, ⟨by (with_reducible repeat (first | apply Kd.zQ | apply Kd.zU | apply Kd.ze)); exact Kd.jP (Kd.ji (p := ⟨gb397, 2, none⟩) (Kd.ji (p := ⟨gb397, 1, none⟩) (Kd.ji (p := ⟨gb397, 0, none⟩) (Kd.jW HO410.out BK397.out (by decide)) (fun _ hk => hk.2) (.bool t407)) (fun _ hk => hk.2) (.slice Ao21 t408.length co21)) (fun _ hk => hk.2) (.slice Ao22 t411.length co22)) (fun _ hk => hk.1.1.1)⟩, ⟨by (with_reducible repeat (first | apply Kd.zQ | apply Kd.zU | apply Kd.ze)); exact Kd.jP (Kd.ji (p := ⟨gb397, 2, none⟩) (Kd.ji (p := ⟨gb397, 1, none⟩) (Kd.ji (p := ⟨gb397, 0, none⟩) (Kd.jW HO413.out BK397.out (by decide)) (fun _ hk => hk.2) (.bool t407)) (fun _ hk => hk.2) (.slice Ao21 t408.length co21)) (fun _ hk => hk.2) (.slice Ao22 t411.length co22)) (fun _ hk => hk.1.1.1)⟩, ⟨by (with_reducible repeat (first | refine jAE ?_ _ | refine zW ?_ | refine za ?_ _)); refine vD (cs := #[.bool t407, .slice Ao21 t408.length co21, .slice Ao18 x398002_1.length co18]) ?_ 2 _ rs_; refine pk_ ?_; refine vD (cs := #[.bool t407, .slice Ao17 x398001_1.length co17, .slice Ao18 x398002_1.length co18]) ?_ 1 _ rs_; refine pk_ ?_; refine vD (cs := #[.bool x398000_1, .slice Ao17 x398001_1.length co17, .slice Ao18 x398002_1.length co18]) ?_ 0 _ rs_; refine pk_ ?_; exact BK397.out⟩, ⟨(bb2_ HB GE397 GE406)⟩⟩
      ·
       rw [if_neg c12] at H
       have c12b0 := beq_eq_false_iff_ne.mpr c12
       have c12b1 := bne_iff_ne.mpr c12
       simp only [Option.some.injEq, Prod.mk.injEq] at H
       obtain ⟨rfl, rfl, rfl, rfl⟩ := H
       have p405 : 0 ≤ (x9_1 : Int) := of_decide_eq_true am_
       have q405 : x9_1 < (l0.length : Int) := of_decide_eq_true am_
       obtain ⟨ad405, A405_1, c405_1, A405_2, c405_2, e405, hx405_0, hx405_1, hx405_2, hl405_1, hi405_1, hl405_2, hi405_2⟩ := jHo HR0.out x9_1 p405 q405
       cases e405
       replace hx405_0 := (HB.out.cell (World.block_lt_of_cell? w _ hx405_0)).trans hx405_0
       replace hx405_1 := (HB.out.cell (World.block_lt_of_cell? w _ hx405_1)).trans hx405_1
       replace hx405_2 := (HB.out.cell (World.block_lt_of_cell? w _ hx405_2)).trans hx405_2
       have HR405_1 := jA.mk hi405_1
       have HC405_1 := jA.mk hl405_1
       clear hi405_1 hl405_1
       have HR405_2 := jA.mk hi405_2
       have HC405_2 := jA.mk hl405_2
       clear hi405_2 hl405_2
       replace p405 := eq_true p405
       replace q405 := eq_true q405
       go_wp2_with (first | ((with_reducible refine jl (N := 5) rfl ?_); refine zA ?hg (N := 5) ?hd (cs := #[.bool false, .slice none 0 0, .slice none 0 0]) (t := 44) ?hr ?_; (case hd => rfl); (case hg => rfl); (case hr => exact gs_); intro gb406 hg w23 hbox hb; have n0_ := jA.mk (Kd.jy (rR_ HO_398001) hb); have n1_ := jA.mk (Kd.jy (rR_ HO_398002) hb); have n2_ := jA.mk (bl_ BK397 hb); have n3_ := jA.mk (jC (bb1_ HB GE397) hb); have n4_ := jA.mk (hbox); have n5_ := jA.mk ((by rw [hg]; exact (jB (bb1_ HB GE397)) : w.heap.size ≤ gb406)); have n6_ := jA.mk ((by rw [hg]; exact (jB (bb1_ HB GE397)) : w.heap.size ≤ gb406)); have n7_ := jA.mk ((by rw [hg]; exact Nat.ne_of_lt (qC (g := gb397) (o := .cells #[.bool x398000_1, u398001, u398002] 44 (0, 0)) (kb_ BK397)) : gb397 ≠ gb406)); have n8_ := jA.mk ((by rw [hg]; exact Nat.ne_of_gt (qC (g := gb397) (o := .cells #[.bool x398000_1, u398001, u398002] 44 (0, 0)) (kb_ BK397)) : gb406 ≠ gb397)); clear HO_398001 HO_398002 BK397 HB; have HO_398001 := n0_; have HO_398002 := n1_; have BK397 := n2_; have HB := n3_; have BK406 := n4_; have GW406 := n5_; have GE406 := n6_; have NB397_406 := n7_; have NB406_397 := n8_; clear n0_ n1_ n2_ n3_ n4_ n5_ n6_ n7_ n8_ hb hbox hg; have hnb24 := NB406_397.out; have hnc24 := NB397_406.out; have hcz25_0 : w23.cell? ⟨gb406, 0, none⟩ = some (.bool false) := (jF BK406.out 0).trans rfl; have hcz25_1 : w23.cell? ⟨gb406, 1, none⟩ = some (.slice none 0 0) := (jF BK406.out 1).trans rfl; have hcz25_2 : w23.cell? ⟨gb406, 2, none⟩ = some (.slice none 0 0) := (jF BK406.out 2).trans rfl; have hfz25_0 := jE BK406.out 0; have hfz25_1 := jE BK406.out 1; have hfz25_2 := jE BK406.out 2; have hcz26_0 : w23.cell? ⟨gb397, 0, none⟩ = some (.bool x398000_1) := (jF BK397.out 0).trans rfl; have hcz26_1 : w23.cell? ⟨gb397, 1, none⟩ = some (u398001) := (jF BK397.out 1).trans rfl; have hcz26_2 : w23.cell? ⟨gb397, 2, none⟩ = some (u398002) := (jF BK397.out 2).trans rfl; have hfz26_0 := jE BK397.out 0; have hfz26_1 := jE BK397.out 1; have hfz26_2 := jE BK397.out 2; obtain ⟨Ao27, co27, eo27⟩ := Kd.jc HO_398001.out; subst eo27; obtain ⟨Ao28, co28, eo28⟩ := Kd.jc HO_398002.out; subst eo28) | ((with_reducible refine jJ (f := 49) rfl ?_); refine jr (some 16) rfl rfl Try.func49 kr_ rfl #[.agg #[.bool x398000_1, .slice Ao27 x398001_1.length co27, .slice Ao28 x398002_1.length co28], .agg #[.bool ((vL l0 x9_1).f0), .slice A405_1 ((vL l0 x9_1).f1).length c405_1, .slice A405_2 ((vL l0 x9_1).f2).length c405_2]] rfl mt_ ?_; (with_reducible refine (vJ.calls k1 x398000_1 _ _ x398001_1 _ _ x398002_1 ((vL l0 x9_1).f0) _ _ ((vL l0 x9_1).f1) _ _ ((vL l0 x9_1).f2) t407 t408 t411 t414 _ ?side1 ?side2 ?side3 ?side4 ?side5 ?side6 ?side7 ?side8 A11.out).mono ?_); (case side1 => refine (Kd.jI (e := 22) (base := w.heap.size) (ok := fun k_ => some k_ ≠ (.slice Ao28 x398002_1.length co28 : Value).ownBlock) (n := x398001_1.length) (c := co27) ?_).2.2; exact (by refine pR_ ?_; exact (Kd.jP (Kd.ji (p := ⟨gb406, 2, none⟩) (Kd.ji (p := ⟨gb406, 1, none⟩) (Kd.ji (p := ⟨gb406, 0, none⟩) (Kd.jW HO_398001.out BK406.out (by decide)) (fun _ hk => hk.2) (.bool ((vL l0 x9_1).f0))) (fun _ hk => hk.2) (.slice A405_1 ((vL l0 x9_1).f1).length c405_1)) (fun _ hk => hk.2) (.slice A405_2 ((vL l0 x9_1).f2).length c405_2)) (fun _ h_ => h_.1)))); (case side2 => exact (Kd.jI HO_398001.out).2.1); (case side3 => refine (Kd.jI (e := 22) (base := w.heap.size) (ok := fun k_ => some k_ ≠ (.slice Ao27 x398001_1.length co27 : Value).ownBlock) (n := x398002_1.length) (c := co28) ?_).2.2; exact (by refine pR_ ?_; exact (Kd.jP (Kd.ji (p := ⟨gb406, 2, none⟩) (Kd.ji (p := ⟨gb406, 1, none⟩) (Kd.ji (p := ⟨gb406, 0, none⟩) (Kd.jW HO_398002.out BK406.out (by decide)) (fun _ hk => hk.2) (.bool ((vL l0 x9_1).f0))) (fun _ hk => hk.2) (.slice A405_1 ((vL l0 x9_1).f1).length c405_1)) (fun _ hk => hk.2) (.slice A405_2 ((vL l0 x9_1).f2).length c405_2)) (fun _ h_ => h_.1)))); (case side4 => exact (Kd.jI HO_398002.out).2.1); (case side5 => exact Kd.je HR405_1.out (bb2_ HB GE397 GE406)); (case side6 => exact HC405_1.out); (case side7 => exact Kd.je HR405_2.out (bb2_ HB GE397 GE406)); (case side8 => exact HC405_2.out); rintro e w29 ⟨v409, v412, rfl, ho0, ho1, hb⟩; refine ⟨_, rfl, ?_⟩; have n0_ := jA.mk (Kd.jP (Kd.zI (Kd.zI (Kd.jAR (by refine pR_ ?_; exact (Kd.jP (Kd.ji (p := ⟨gb406, 2, none⟩) (Kd.ji (p := ⟨gb406, 1, none⟩) (Kd.ji (p := ⟨gb406, 0, none⟩) (Kd.jW HO_398001.out BK406.out (by decide)) (fun _ hk => hk.2) (.bool ((vL l0 x9_1).f0))) (fun _ hk => hk.2) (.slice A405_1 ((vL l0 x9_1).f1).length c405_1)) (fun _ hk => hk.2) (.slice A405_2 ((vL l0 x9_1).f2).length c405_2)) (fun _ h_ => h_.1))) hb) (Kd.jL ho0)) (Kd.jL ho1)) (fun _ h_ => h_.1)); have n1_ := jA.mk (Kd.jP (Kd.zI (Kd.zI (Kd.jAR (by refine pR_ ?_; exact (Kd.jP (Kd.ji (p := ⟨gb406, 2, none⟩) (Kd.ji (p := ⟨gb406, 1, none⟩) (Kd.ji (p := ⟨gb406, 0, none⟩) (Kd.jW HO_398002.out BK406.out (by decide)) (fun _ hk => hk.2) (.bool ((vL l0 x9_1).f0))) (fun _ hk => hk.2) (.slice A405_1 ((vL l0 x9_1).f1).length c405_1)) (fun _ hk => hk.2) (.slice A405_2 ((vL l0 x9_1).f2).length c405_2)) (fun _ h_ => h_.1))) hb) (Kd.jL ho0)) (Kd.jL ho1)) (fun _ h_ => h_.1)); have n2_ := jA.mk (Kd.jS (Kd.jN (Kd.jN ho0 (Kd.R_lt (by refine pR_ ?_; exact (Kd.jP (Kd.ji (p := ⟨gb406, 2, none⟩) (Kd.ji (p := ⟨gb406, 1, none⟩) (Kd.ji (p := ⟨gb406, 0, none⟩) (Kd.jW HO_398001.out BK406.out (by decide)) (fun _ hk => hk.2) (.bool ((vL l0 x9_1).f0))) (fun _ hk => hk.2) (.slice A405_1 ((vL l0 x9_1).f1).length c405_1)) (fun _ hk => hk.2) (.slice A405_2 ((vL l0 x9_1).f2).length c405_2)) (fun _ h_ => h_.1))))) (Kd.R_lt (by refine pR_ ?_; exact (Kd.jP (Kd.ji (p := ⟨gb406, 2, none⟩) (Kd.ji (p := ⟨gb406, 1, none⟩) (Kd.ji (p := ⟨gb406, 0, none⟩) (Kd.jW HO_398002.out BK406.out (by decide)) (fun _ hk => hk.2) (.bool ((vL l0 x9_1).f0))) (fun _ hk => hk.2) (.slice A405_1 ((vL l0 x9_1).f1).length c405_1)) (fun _ hk => hk.2) (.slice A405_2 ((vL l0 x9_1).f2).length c405_2)) (fun _ h_ => h_.1))))) (jB (bb2_ HB GE397 GE406))); have n3_ := jA.mk (Kd.jS (Kd.jN (Kd.jN ho1 (Kd.R_lt (by refine pR_ ?_; exact (Kd.jP (Kd.ji (p := ⟨gb406, 2, none⟩) (Kd.ji (p := ⟨gb406, 1, none⟩) (Kd.ji (p := ⟨gb406, 0, none⟩) (Kd.jW HO_398001.out BK406.out (by decide)) (fun _ hk => hk.2) (.bool ((vL l0 x9_1).f0))) (fun _ hk => hk.2) (.slice A405_1 ((vL l0 x9_1).f1).length c405_1)) (fun _ hk => hk.2) (.slice A405_2 ((vL l0 x9_1).f2).length c405_2)) (fun _ h_ => h_.1))))) (Kd.R_lt (by refine pR_ ?_; exact (Kd.jP (Kd.ji (p := ⟨gb406, 2, none⟩) (Kd.ji (p := ⟨gb406, 1, none⟩) (Kd.ji (p := ⟨gb406, 0, none⟩) (Kd.jW HO_398002.out BK406.out (by decide)) (fun _ hk => hk.2) (.bool ((vL l0 x9_1).f0))) (fun _ hk => hk.2) (.slice A405_1 ((vL l0 x9_1).f1).length c405_1)) (fun _ hk => hk.2) (.slice A405_2 ((vL l0 x9_1).f2).length c405_2)) (fun _ h_ => h_.1))))) (jB (bb2_ HB GE397 GE406))); have n4_ := jA.mk (zC (g := gb397) (o := .cells #[.bool x398000_1, .slice Ao27 x398001_1.length co27, .slice Ao28 x398002_1.length co28] 44 (0, 0)) (by refine pk_ ?_; refine qX ?_ NB397_406.out _; refine pk_ ?_; refine qX ?_ NB397_406.out _; refine pk_ ?_; refine qX ?_ NB397_406.out _; refine pk_ ?_; exact BK397.out) hb); have n5_ := jA.mk (zC (g := gb406) (o := .cells #[.bool ((vL l0 x9_1).f0), .slice A405_1 ((vL l0 x9_1).f1).length c405_1, .slice A405_2 ((vL l0 x9_1).f2).length c405_2] 44 (0, 0)) (by refine pk_ ?_; refine vD (cs := #[.bool ((vL l0 x9_1).f0), .slice A405_1 ((vL l0 x9_1).f1).length c405_1, .slice none 0 0]) ?_ 2 _ rs_; refine pk_ ?_; refine vD (cs := #[.bool ((vL l0 x9_1).f0), .slice none 0 0, .slice none 0 0]) ?_ 1 _ rs_; refine pk_ ?_; refine vD (cs := #[.bool false, .slice none 0 0, .slice none 0 0]) ?_ 0 _ rs_; refine pk_ ?_; exact BK406.out) hb); have n6_ := jA.mk (jC (bb2_ HB GE397 GE406) hb); clear HO_398001 HO_398002 BK397 BK406 HB; have HO_398001 := n0_; have HO_398002 := n1_; have HO410 := n2_; have HO413 := n3_; have BK397 := n4_; have BK406 := n5_; have HB := n6_; clear n0_ n1_ n2_ n3_ n4_ n5_ n6_; have hcz30_0 : w29.cell? ⟨gb397, 0, none⟩ = some (.bool x398000_1) := (jF BK397.out 0).trans rfl; have hcz30_1 : w29.cell? ⟨gb397, 1, none⟩ = some (.slice Ao27 x398001_1.length co27) := (jF BK397.out 1).trans rfl; have hcz30_2 : w29.cell? ⟨gb397, 2, none⟩ = some (.slice Ao28 x398002_1.length co28) := (jF BK397.out 2).trans rfl; have hfz30_0 := jE BK397.out 0; have hfz30_1 := jE BK397.out 1; have hfz30_2 := jE BK397.out 2; obtain ⟨Ao31, co31, eo31⟩ := Kd.jc HO410.out; subst eo31; obtain ⟨Ao32, co32, eo32⟩ := Kd.jc HO413.out; subst eo32))
       refine bodyPost_ret (qN rfl _ _ gb397 44 #[.bool false, .slice none 0 0, .slice none 0 0] (0, 0) _ rfl (by refine pk_ ?_; refine vD (cs := #[.bool false, .slice none 0 0, .slice Ao32 t411.length co32]) ?_ 2 _ rs_; refine pk_ ?_; refine vD (cs := #[.bool false, .slice Ao31 t408.length co31, .slice Ao32 t411.length co32]) ?_ 1 _ rs_; refine pk_ ?_; refine vD (cs := #[.bool t407, .slice Ao31 t408.length co31, .slice Ao32 t411.length co32]) ?_ 0 _ rs_; refine pk_ ?_; refine vD (cs := #[.bool t407, .slice Ao31 t408.length co31, .slice Ao28 x398002_1.length co28]) ?_ 2 _ rs_; refine pk_ ?_; refine vD (cs := #[.bool t407, .slice Ao27 x398001_1.length co27, .slice Ao28 x398002_1.length co28]) ?_ 1 _ rs_; refine pk_ ?_; refine vD (cs := #[.bool x398000_1, .slice Ao27 x398001_1.length co27, .slice Ao28 x398002_1.length co28]) ?_ 0 _ rs_; refine pk_ ?_; exact BK397.out) Try.underlying44 rfl kr_) rfl ?_
       exact ⟨_, _, ew_, nl_, nl_, (bb2_ HB GE397 GE406)⟩
     ·
      rw [if_neg c10] at H
      exact absurd H (by simp)
    ·
     rw [if_neg c9] at H
     exact absurd H (by simp)
   ·
    rw [if_neg c8] at H
    have c8b0 := decide_eq_false c8
    clear c8
    simp only [Option.some.injEq, Prod.mk.injEq] at H
    obtain ⟨rfl, rfl, rfl, rfl⟩ := H
    have hcz33_0 : wr.cell? ⟨gb397, 0, none⟩ = some (.bool x398000_1) := (jF BK397.out 0).trans rfl
    have hcz33_1 : wr.cell? ⟨gb397, 1, none⟩ = some (u398001) := (jF BK397.out 1).trans rfl
    have hcz33_2 : wr.cell? ⟨gb397, 2, none⟩ = some (u398002) := (jF BK397.out 2).trans rfl
    have hfz33_0 := jE BK397.out 0
    have hfz33_1 := jE BK397.out 1
    have hfz33_2 := jE BK397.out 2
    obtain ⟨Ao34, co34, eo34⟩ := Kd.jc HO_398001.out
    subst eo34
    obtain ⟨Ao35, co35, eo35⟩ := Kd.jc HO_398002.out
    subst eo35
    go_wp2
    refine bodyPost_ret (qN rfl _ _ gb397 44 #[.bool x398000_1, .slice Ao34 x398001_1.length co34, .slice Ao35 x398002_1.length co35] (0, 0) _ rfl (by refine pk_ ?_; refine vD (cs := #[.bool x398000_1, .slice Ao34 x398001_1.length co34, .slice Ao35 x398002_1.length co35]) ?_ 2 _ rs_; refine pk_ ?_; refine vD (cs := #[.bool x398000_1, .slice Ao34 x398001_1.length co34, .slice Ao35 x398002_1.length co35]) ?_ 1 _ rs_; refine pk_ ?_; refine vD (cs := #[.bool x398000_1, .slice Ao34 x398001_1.length co34, .slice Ao35 x398002_1.length co35]) ?_ 0 _ rs_; refine pk_ ?_; exact BK397.out) Try.underlying44 rfl kr_) rfl ?_
    exact ⟨_, _, ew_, by refine pR_ ?_; exact Kd.jP (Kd.ji (p := ⟨gb397, 2, none⟩) (Kd.ji (p := ⟨gb397, 1, none⟩) (Kd.ji (p := ⟨gb397, 0, none⟩) (Kd.jW HO_398001.out BK397.out (by decide)) (fun _ hk => hk.2) (.bool x398000_1)) (fun _ hk => hk.2) (.slice Ao34 x398001_1.length co34)) (fun _ hk => hk.2) (.slice Ao35 x398002_1.length co35)) (fun _ hk => hk.1), by refine pR_ ?_; exact Kd.jP (Kd.ji (p := ⟨gb397, 2, none⟩) (Kd.ji (p := ⟨gb397, 1, none⟩) (Kd.ji (p := ⟨gb397, 0, none⟩) (Kd.jW HO_398002.out BK397.out (by decide)) (fun _ hk => hk.2) (.bool x398000_1)) (fun _ hk => hk.2) (.slice Ao34 x398001_1.length co34)) (fun _ hk => hk.2) (.slice Ao35 x398002_1.length co35)) (fun _ hk => hk.1), (bb1_ HB GE397)⟩

/-! ### jd: function 25 -/
def jd.l0 : Nat → List Int → Int → Option (List Int)
 | 0, _, _ => none
 | k + 1, x0, x3 => if x3 > 0 then (if 0 ≤ (wrap64 (x3 - 1)) then (if (wrap64 (x3 - 1)) < (x0.length : Int) then (if (rd x0 (wrap64 (x3 - 1))) = 0 then (jd.l0 k x0 (wrap64 (x3 - 1))) else ((some (([] : List Int) : List Int)).bind fun y416 => (if 0 ≤ x3 then (if x3 ≤ (x0.length : Int) then (if y416.length + (x0.take (x3 : Int).toNat).length < 17592186044416 then (some (y416 ++ (x0.take (x3 : Int).toNat))) else (none)) else (none)) else (none)))) else (none)) else (none)) else ((some (([] : List Int) : List Int)).bind fun y423 => (if 0 ≤ x3 then (if x3 ≤ (x0.length : Int) then (if y423.length + (x0.take (x3 : Int).toNat).length < 17592186044416 then (some (y423 ++ (x0.take (x3 : Int).toNat))) else (none)) else (none)) else (none)))
def jd.f (k : Nat) (l0 : List Int) : Option (List Int) := jd.l0 k l0 (l0.length : Int)
theorem jd.vk : ∀ k, (∀ y0 y1, LeO (jd.l0 k y0 y1) (jd.l0 (k + 1) y0 y1))
 | 0 => fun _ _ r h => by simp [jd.l0] at h
 | k + 1 => by
  have ih0 := jd.vk k
  ·
   intro y0 y1
   unfold jd.l0
   repeat' first
   | (with_reducible exact ih0 _ _)
   | (with_reducible exact LeO.refl _)
   | (with_reducible exact LeO.none _)
   | (with_reducible refine LeO.ite ?_ ?_)
   | (with_reducible refine LeO.bind ?_ (fun _ => ?_))
theorem jd.mono : ∀ a0 k, LeO (jd.f k a0) (jd.f (k + 1) a0) := by
 intro a0 k
 have ih0 := jd.vk k
 unfold jd.f
 repeat' first
   | (with_reducible exact ih0 _ _)
   | (with_reducible exact LeO.refl _)
   | (with_reducible exact LeO.none _)
   | (with_reducible refine LeO.ite ?_ ?_)
   | (with_reducible refine LeO.bind ?_ (fun _ => ?_))
theorem jd.calls (k : Nat) (A0 : Option Addr) (c0 : Nat) (l0 : List Int) (r : List Int) (w : World) (hr0 : Kd.C (Kd.int .u64) w A0 l0.length l0) (hc0 : l0.length ≤ c0) (h : jd.f k l0 = some r) :
  Calls Try.prog 25 #[.slice A0 l0.length c0] w fun e w' => ∃ v0_ : Value, e = .returned (v0_) ∧ Kd.R (Kd.int .u64) 22 w' w.heap.size (fun _ => True) v0_ r ∧ Below w.heap.size w w' := by
 have HR0 := jA.mk hr0
 have HC0 := jA.mk hc0
 clear hr0 hc0
 have HB := jA.mk (Below.refl w.heap.size w)
 have H : (jd.l0 k l0 (l0.length : Int)) = some r := h
 clear h
 have H' := jA.mk H
 clear H
 go_enter Try.func25, Try.ntmps25
 go_wp2
 go_loopg [3] k (fun kq v3 w' => ∃ (x3_1 : Int), v3 = .int .i64 x3_1 ∧ jA (jd.l0 kq l0 x3_1 = some r) ∧ jA (kq ≤ k) ∧ jA (Below w.heap.size w w'))
 case atStart => exact ⟨((l0.length : Int)), sd_, H', ⟨Nat.le_refl _⟩, ⟨(bb_ HB)⟩⟩
 case round =>
  clear H'
  obtain ⟨x3_1, rfl, HA, HK1, HB⟩ := hrel
  cases gk with
  | zero => exact absurd HA.out (by simp [jd.l0])
  | succ k1 =>
   have H := HA.out
   clear HA
   simp only [jd.l0] at H
   by_cases c2 : x3_1 > 0
   ·
    rw [if_pos c2] at H
    have c2b0 := decide_eq_true c2
    clear c2
    obtain ⟨ji3, hji3⟩ : ∃ j_ : Int, (wrap64 (x3_1 - 1)) = j_ := ⟨_, rfl⟩
    replace H : (if 0 ≤ (ji3) then (if (ji3) < (l0.length : Int) then (if (rd l0 (ji3)) = 0 then (jd.l0 k1 l0 ji3) else ((some (([] : List Int) : List Int)).bind fun y416 => (if 0 ≤ x3_1 then (if x3_1 ≤ (l0.length : Int) then (if y416.length + (l0.take (x3_1 : Int).toNat).length < 17592186044416 then (some (y416 ++ (l0.take (x3_1 : Int).toNat))) else (none)) else (none)) else (none)))) else (none)) else (none)) = some r := by first | (rw [hji3] at H; exact H) | (simp only [hji3] at H ⊢; exact H)
    have hji3w : (IntKind.i64.wrap (x3_1 - 1)) = ji3 := (jk _).trans hji3
    by_cases c4 : 0 ≤ (ji3)
    ·
     rw [if_pos c4] at H
     have c4b0 := decide_eq_true c4
     clear c4
     by_cases c5 : (ji3) < (l0.length : Int)
     ·
      rw [if_pos c5] at H
      have c5b0 := decide_eq_true c5
      clear c5
      by_cases c6 : (rd l0 (ji3)) = 0
      ·
       rw [if_pos c6] at H
       have c6b0 := beq_iff_eq.mpr c6
       have c6b1 := bne_eq_false_iff_eq.mpr c6
       clear c6
       have H' := jA.mk H
       clear H
       have p415 : 0 ≤ ((ji3) : Int) := of_decide_eq_true am_
       have q415 : (ji3) < (l0.length : Int) := of_decide_eq_true am_
       obtain ⟨ad415, e415, hx415_0⟩ := Kd.zF HR0.out (ji3) p415 q415
       cases e415
       replace hx415_0 := (HB.out.cell (World.block_lt_of_cell? w _ hx415_0)).trans hx415_0
       replace p415 := eq_true p415
       replace q415 := eq_true q415
       go_wp2
       go_roundg k1
       case measure => have := HK1.out; omega
       case rel => exact ⟨(ji3), (by first | rfl | (simp; done) | (simp only [← hji3] <;> (first | rfl | simp)) | (simp [*]; done)), H', ⟨by have := HK1.out; omega⟩, ⟨(bb_ HB)⟩⟩
      ·
       rw [if_neg c6] at H
       have c6b0 := beq_eq_false_iff_ne.mpr c6
       have c6b1 := bne_iff_ne.mpr c6
       obtain ⟨y416, hy416⟩ : ∃ y_ : List Int, y_ = (([] : List Int)) := ⟨_, rfl⟩
       replace H : (if 0 ≤ x3_1 then (if x3_1 ≤ (l0.length : Int) then (if y416.length + (l0.take (x3_1 : Int).toNat).length < 17592186044416 then (some (y416 ++ (l0.take (x3_1 : Int).toNat))) else (none)) else (none)) else (none)) = some r := by first | (rw [hy416]; with_reducible exact H) | (have H2_ := (Option.bind_some _ _).symm.trans H; rw [hy416]; with_reducible exact H2_) | (with_reducible exact hs_ H) | with_reducible exact H | (rw [hy416]; exact H) | exact H
       have Ny416 := jA.mk hy416
       clear hy416
       by_cases c7 : 0 ≤ x3_1
       ·
        rw [if_pos c7] at H
        have c7b0 := eq_true c7
        have c7b1 := decide_eq_true c7
        clear c7
        by_cases c8 : x3_1 ≤ (l0.length : Int)
        ·
         rw [if_pos c8] at H
         have c8b0 := eq_true c8
         have c8b1 := decide_eq_true c8
         clear c8
         by_cases c9 : y416.length + (l0.take (x3_1 : Int).toNat).length < 17592186044416
         ·
          rw [if_pos c9] at H
          have LMc9 := jA.mk c9
          clear c9
          obtain ⟨y420, hy420⟩ : ∃ y_ : List Int, y_ = (y416 ++ (l0.take (x3_1 : Int).toNat)) := ⟨_, rfl⟩
          replace H : (some y420) = some r := by first | (rw [hy420]; with_reducible exact H) | (have H2_ := (Option.bind_some _ _).symm.trans H; rw [hy420]; with_reducible exact H2_) | (with_reducible exact hs_ H) | with_reducible exact H | (rw [hy420]; exact H) | exact H
          have Ny420 := jA.mk hy420
          clear hy420
          obtain rfl := Option.some.inj H
          have p415 : 0 ≤ ((ji3) : Int) := of_decide_eq_true am_
          have q415 : (ji3) < (l0.length : Int) := of_decide_eq_true am_
          obtain ⟨ad415, e415, hx415_0⟩ := Kd.zF HR0.out (ji3) p415 q415
          cases e415
          replace hx415_0 := (HB.out.cell (World.block_lt_of_cell? w _ hx415_0)).trans hx415_0
          replace p415 := eq_true p415
          replace q415 := eq_true q415
          go_wp2_with (first | ((with_reducible refine jl (N := 19) rfl ?_); refine Kd.jAC (Kd.int .u64) _ 22 ?hg (N := 19) ?hd (xs := ([] : List Int)) (inner := []) (ok := fun _ => True) (okp := fun _ => True) ?hr ?hp (fun _ hk => hk) trivial (Below.refl _ _) (Nat.le_refl _) (by simp) ?_; (case hd => rfl); (case hg => rfl); (case hr => exact gs_); (case hp => exact (Reps.none _ _)); intro v417 w10 ho11 hb hg_ hnew_; clear hg_ hnew_; (first | rw [← Ny416.out] at ho11 | (simp only [Int.reduceToNat] at ho11; rw [← Ny416.out] at ho11)); have n0_ := jA.mk (Kd.jS ho11 (jB (bb_ HB))); have n1_ := jA.mk (jC (bb_ HB) hb); clear HB; have HO418 := n0_; have HB := n1_; clear n0_ n1_ hb ho11; obtain ⟨i012, hi012, _, hsz12, _⟩ := info_parts qJ; obtain ⟨hcut12, hA12, hC12⟩ := jBf (P := Try.prog) (Value.int .u64) 0 35 22 .i64 Try.underlying35 hi012 hsz12 (some ad415) c0 l0 x3_1 (of_decide_eq_true am_) (of_decide_eq_true am_) HC0.out; have HR419 := jA.mk (Kd.jBS (h1 := fun _ => rfl) (hA12 _ (Kd.jBp HR0.out))); have HC419 := jA.mk hC12; clear hA12 hC12 hi012 hsz12) | ((with_reducible refine vw (b := .append) (xs := #[.tmp 20, .tmp 23]) rfl ?_); at_builtin; refine Kd.jAT (Kd.int .u64) (w0 := w) w.heap.size rfl (.tmp 20) (.tmp 23) 35 22 (.int .u64 0) 8 rfl Try.underlying35 qJ rfl (by decide) (by omega) v417 y416 (l0.take (x3_1 : Int).toNat) _ _ _ (fun _ => True) (fun _ => False) rfl rfl ?aO ?aR (fun _ _ h => h) (fun _ h => h.elim) ?aF ?aB ?aS ?aL ?_; (case aR => first | (refine jBv (show (l0.take (x3_1 : Int).toNat).length = x3_1.toNat from (by rw [List.length_take]; have h_ : (x3_1 : Int) ≤ (l0.length : Int) := of_decide_eq_true am_; omega)) ?_; exact cc_ (Kd.je HR419.out HB.out)) | (exact cc_ (Kd.je HR419.out HB.out))); (case aB => exact (bb_ HB)); (case aF => exact (fun _ _ => trivial)); (case aO => exact (rR_ HO418)); (case aS => exact (jB (bb_ HB))); (case aL => have := LMc9.out; have hlx_ := (show (l0.take (x3_1 : Int).toNat).length = x3_1.toNat from (by rw [List.length_take]; have h_ : (x3_1 : Int) ≤ (l0.length : Int) := of_decide_eq_true am_; omega)); omega); intro v421 w13 ho hb hg hat; rw [← Ny420.out] at ho; have n0_ := jA.mk (hb); have n1_ := jA.mk (ho); clear HB HO418; have HB := n0_; have HO422 := n1_; clear n0_ n1_ ho hb hg hat))
          go_ret
          exact ⟨_, by first | rfl | (simp [vY, vX] <;> rfl) | (simp only [← hji3]; first | rfl | (simp [vY, vX] <;> rfl)) | (simp [*, vY, vX] <;> rfl), (rR_ HO422), (bb_ HB)⟩
         ·
          rw [if_neg c9] at H
          exact absurd H (by simp)
        ·
         rw [if_neg c8] at H
         exact absurd H (by simp)
       ·
        rw [if_neg c7] at H
        exact absurd H (by simp)
     ·
      rw [if_neg c5] at H
      exact absurd H (by simp)
    ·
     rw [if_neg c4] at H
     exact absurd H (by simp)
   ·
    rw [if_neg c2] at H
    have c2b0 := decide_eq_false c2
    clear c2
    obtain ⟨y423, hy423⟩ : ∃ y_ : List Int, y_ = (([] : List Int)) := ⟨_, rfl⟩
    replace H : (if 0 ≤ x3_1 then (if x3_1 ≤ (l0.length : Int) then (if y423.length + (l0.take (x3_1 : Int).toNat).length < 17592186044416 then (some (y423 ++ (l0.take (x3_1 : Int).toNat))) else (none)) else (none)) else (none)) = some r := by first | (rw [hy423]; with_reducible exact H) | (have H2_ := (Option.bind_some _ _).symm.trans H; rw [hy423]; with_reducible exact H2_) | (with_reducible exact hs_ H) | with_reducible exact H | (rw [hy423]; exact H) | exact H
    have Ny423 := jA.mk hy423
    clear hy423
    by_cases c14 : 0 ≤ x3_1
    ·
     rw [if_pos c14] at H
     have c14b0 := eq_true c14
     have c14b1 := decide_eq_true c14
     clear c14
     by_cases c15 : x3_1 ≤ (l0.length : Int)
     ·
      rw [if_pos c15] at H
      have c15b0 := eq_true c15
      have c15b1 := decide_eq_true c15
      clear c15
      by_cases c16 : y423.length + (l0.take (x3_1 : Int).toNat).length < 17592186044416
      ·
       rw [if_pos c16] at H
       have LMc16 := jA.mk c16
       clear c16
       obtain ⟨y427, hy427⟩ : ∃ y_ : List Int, y_ = (y423 ++ (l0.take (x3_1 : Int).toNat)) := ⟨_, rfl⟩
       replace H : (some y427) = some r := by first | (rw [hy427]; with_reducible exact H) | (have H2_ := (Option.bind_some _ _).symm.trans H; rw [hy427]; with_reducible exact H2_) | (with_reducible exact hs_ H) | with_reducible exact H | (rw [hy427]; exact H) | exact H
       have Ny427 := jA.mk hy427
       clear hy427
       obtain rfl := Option.some.inj H
       go_wp2_with (first | ((with_reducible refine jl (N := 19) rfl ?_); refine Kd.jAC (Kd.int .u64) _ 22 ?hg (N := 19) ?hd (xs := ([] : List Int)) (inner := []) (ok := fun _ => True) (okp := fun _ => True) ?hr ?hp (fun _ hk => hk) trivial (Below.refl _ _) (Nat.le_refl _) (by simp) ?_; (case hd => rfl); (case hg => rfl); (case hr => exact gs_); (case hp => exact (Reps.none _ _)); intro v424 w17 ho18 hb hg_ hnew_; clear hg_ hnew_; (first | rw [← Ny423.out] at ho18 | (simp only [Int.reduceToNat] at ho18; rw [← Ny423.out] at ho18)); have n0_ := jA.mk (Kd.jS ho18 (jB (bb_ HB))); have n1_ := jA.mk (jC (bb_ HB) hb); clear HB; have HO425 := n0_; have HB := n1_; clear n0_ n1_ hb ho18; obtain ⟨i019, hi019, _, hsz19, _⟩ := info_parts qJ; obtain ⟨hcut19, hA19, hC19⟩ := jBf (P := Try.prog) (Value.int .u64) 0 35 22 .i64 Try.underlying35 hi019 hsz19 A0 c0 l0 x3_1 (of_decide_eq_true am_) (of_decide_eq_true am_) HC0.out; have HR426 := jA.mk (Kd.jBS (h1 := fun _ => rfl) (hA19 _ (Kd.jBp HR0.out))); have HC426 := jA.mk hC19; clear hA19 hC19 hi019 hsz19) | ((with_reducible refine vw (b := .append) (xs := #[.tmp 20, .tmp 23]) rfl ?_); at_builtin; refine Kd.jAT (Kd.int .u64) (w0 := w) w.heap.size rfl (.tmp 20) (.tmp 23) 35 22 (.int .u64 0) 8 rfl Try.underlying35 qJ rfl (by decide) (by omega) v424 y423 (l0.take (x3_1 : Int).toNat) _ _ _ (fun _ => True) (fun _ => False) rfl rfl ?aO ?aR (fun _ _ h => h) (fun _ h => h.elim) ?aF ?aB ?aS ?aL ?_; (case aR => first | (refine jBv (show (l0.take (x3_1 : Int).toNat).length = x3_1.toNat from (by rw [List.length_take]; have h_ : (x3_1 : Int) ≤ (l0.length : Int) := of_decide_eq_true am_; omega)) ?_; exact cc_ (Kd.je HR426.out HB.out)) | (exact cc_ (Kd.je HR426.out HB.out))); (case aB => exact (bb_ HB)); (case aF => exact (fun _ _ => trivial)); (case aO => exact (rR_ HO425)); (case aS => exact (jB (bb_ HB))); (case aL => have := LMc16.out; have hlx_ := (show (l0.take (x3_1 : Int).toNat).length = x3_1.toNat from (by rw [List.length_take]; have h_ : (x3_1 : Int) ≤ (l0.length : Int) := of_decide_eq_true am_; omega)); omega); intro v428 w20 ho hb hg hat; rw [← Ny427.out] at ho; have n0_ := jA.mk (hb); have n1_ := jA.mk (ho); clear HB HO425; have HB := n0_; have HO429 := n1_; clear n0_ n1_ ho hb hg hat))
       go_ret
       exact ⟨_, ew_, (rR_ HO429), (bb_ HB)⟩
      ·
       rw [if_neg c16] at H
       exact absurd H (by simp)
     ·
      rw [if_neg c15] at H
      exact absurd H (by simp)
    ·
     rw [if_neg c14] at H
     exact absurd H (by simp)

/-! ### vH: function 74 -/
def vH.f (l0 : List Int) : Option (Bool) := if (l0.length : Int) ≤ 8 then (if (l0.length : Int) = 0 then (some true) else (if 0 ≤ (wrap64 ((l0.length : Int) - 1)) then (if (wrap64 ((l0.length : Int) - 1)) < (l0.length : Int) then (some ((rd l0 (wrap64 ((l0.length : Int) - 1))) != 0)) else (none)) else (none))) else (some false)
theorem vH.calls (A0 : Option Addr) (c0 : Nat) (l0 : List Int) (r : Bool) (w : World) (hr0 : Kd.C (Kd.int .u64) w A0 l0.length l0) (hc0 : l0.length ≤ c0) (h : vH.f l0 = some r) :
  Calls Try.prog 74 #[.slice A0 l0.length c0] w fun e w' => e = .returned (.bool r) ∧ zf w w' := by
 have HR0 := jA.mk hr0
 have HC0 := jA.mk hc0
 clear hr0 hc0
 have H : (if (l0.length : Int) ≤ 8 then (if (l0.length : Int) = 0 then (some true) else (if 0 ≤ (wrap64 ((l0.length : Int) - 1)) then (if (wrap64 ((l0.length : Int) - 1)) < (l0.length : Int) then (some ((rd l0 (wrap64 ((l0.length : Int) - 1))) != 0)) else (none)) else (none))) else (some false)) = some r := h
 clear h
 by_cases c2 : (l0.length : Int) ≤ 8
 ·
  rw [if_pos c2] at H
  have c2b0 := decide_eq_true c2
  have c2b1 : decide (l0.length ≤ 8) = true := decide_eq_true (by omega)
  clear c2
  by_cases c3 : (l0.length : Int) = 0
  ·
   rw [if_pos c3] at H
   have c3b0 := beq_iff_eq.mpr c3
   have c3b1 := bne_eq_false_iff_eq.mpr c3
   clear c3
   obtain rfl := Option.some.inj H
   go_enter Try.func74, Try.ntmps74
   go_wp2
   go_ret
   exact ⟨by first | rfl | (simp; done) | (simp [*]; done), by repeat (first | exact zf.refl _ | apply zf.step)⟩
  ·
   rw [if_neg c3] at H
   have c3b0 := beq_eq_false_iff_ne.mpr c3
   have c3b1 := bne_iff_ne.mpr c3
   have c3b2 : ¬ (l0 = []) := fun h_ => c3 (by rw [h_]; rfl)
   obtain ⟨ji4, hji4⟩ : ∃ j_ : Int, (wrap64 ((l0.length : Int) - 1)) = j_ := ⟨_, rfl⟩
   replace H : (if 0 ≤ (ji4) then (if (ji4) < (l0.length : Int) then (some ((rd l0 (ji4)) != 0)) else (none)) else (none)) = some r := by first | (rw [hji4] at H; exact H) | (simp only [hji4] at H ⊢; exact H)
   have hji4w : (IntKind.i64.wrap ((l0.length : Int) - 1)) = ji4 := (jk _).trans hji4
   by_cases c5 : 0 ≤ (ji4)
   ·
    rw [if_pos c5] at H
    have c5b0 := decide_eq_true c5
    clear c5
    by_cases c6 : (ji4) < (l0.length : Int)
    ·
     rw [if_pos c6] at H
     have c6b0 := decide_eq_true c6
     clear c6
     obtain rfl := Option.some.inj H
     have p430 : 0 ≤ ((ji4) : Int) := of_decide_eq_true am_
     have q430 : (ji4) < (l0.length : Int) := of_decide_eq_true am_
     obtain ⟨ad430, e430, hx430_0⟩ := Kd.zF HR0.out (ji4) p430 q430
     cases e430
     replace p430 := eq_true p430
     replace q430 := eq_true q430
     go_enter Try.func74, Try.ntmps74
     go_wp2
     go_ret
     exact ⟨by first | rfl | (simp; done) | (simp only [← hji4] <;> (first | rfl | simp)) | (simp [*]; done), by repeat (first | exact zf.refl _ | apply zf.step)⟩
    ·
     rw [if_neg c6] at H
     exact absurd H (by simp)
   ·
    rw [if_neg c5] at H
    exact absurd H (by simp)
 ·
  rw [if_neg c2] at H
  have c2b0 := decide_eq_false c2
  have c2b1 : decide (l0.length ≤ 8) = false := decide_eq_false (by omega)
  clear c2
  obtain rfl := Option.some.inj H
  go_enter Try.func74, Try.ntmps74
  go_wp2
  go_ret
  exact ⟨by first | rfl | (simp; done) | (simp [*]; done), by repeat (first | exact zf.refl _ | apply zf.step)⟩

/-! ### zG: function 21 -/
def zG.f (k : Nat) (a0 : Int) : Option (List Int) := (jd.f k (([a0] : List Int))).bind fun t434 => (some t434)
theorem zG.mono : ∀ a0 k, LeO (zG.f k a0) (zG.f (k + 1) a0) := by
 intro a0 k
 unfold zG.f
 repeat' first
   | (with_reducible exact jd.mono _ _)
   | (with_reducible exact LeO.refl _)
   | (with_reducible exact LeO.none _)
   | (with_reducible refine LeO.ite ?_ ?_)
   | (with_reducible refine LeO.bind ?_ (fun _ => ?_))
theorem zG.calls (k : Nat) (a0 : Int) (r : List Int) (w : World) (h : zG.f k a0 = some r) :
  Calls Try.prog 21 #[.int .u64 a0] w fun e w' => ∃ v0_ : Value, e = .returned (v0_) ∧ Kd.R (Kd.int .u64) 22 w' w.heap.size (fun _ => True) v0_ r ∧ Below w.heap.size w w' := by
 have HB := jA.mk (Below.refl w.heap.size w)
 have H : ((jd.f k (([a0] : List Int))).bind fun t434 => (some t434)) = some r := h
 clear h
 obtain ⟨y431, hy431⟩ : ∃ y_ : List Int, y_ = (([a0] : List Int)) := ⟨_, rfl⟩
 replace H : ((jd.f k y431).bind fun t434 => (some t434)) = some r := by first | (rw [hy431]; with_reducible exact H) | (have H2_ := (Option.bind_some _ _).symm.trans H; rw [hy431]; with_reducible exact H2_) | (with_reducible exact hs_ H) | with_reducible exact H | (rw [hy431]; exact H) | exact H
 have Ny431 := jA.mk hy431
 clear hy431
 replace H := ob_ H
 obtain ⟨t434, A20, H⟩ := H
 replace H : (some t434) = some r := H
 have A2 := jA.mk A20
 clear A20
 obtain rfl := Option.some.inj H
 go_enter Try.func21, Try.ntmps21
 go_wp2_with (first | ((with_reducible refine jl (N := 4) rfl ?_); refine Kd.jAC (Kd.int .u64) _ 22 ?hg (N := 4) ?hd (xs := ([a0] : List Int)) (inner := [.int .u64 a0]) (ok := fun _ => True) (okp := fun _ => True) ?hr ?hp (fun _ hk => hk) trivial (Below.refl _ _) (Nat.le_refl _) (by simp) ?_; (case hd => rfl); (case hg => rfl); (case hr => exact gs_); (case hp => exact (Reps.one (show Kd.M (Kd.int .u64) _ _ _ a0 [.int .u64 a0] from rfl) (Reps.none _ _))); intro v432 w3 ho4 hb hg_ hnew_; clear hg_ hnew_; (first | rw [← Ny431.out] at ho4 | (simp only [Int.reduceToNat] at ho4; rw [← Ny431.out] at ho4)); have n0_ := jA.mk (Kd.jS ho4 (jB (bb_ HB))); have n1_ := jA.mk (jC (bb_ HB) hb); clear HB; have HO433 := n0_; have HB := n1_; clear n0_ n1_ hb ho4; obtain ⟨Ao5, co5, eo5⟩ := Kd.jc HO433.out; subst eo5) | ((with_reducible refine jJ (f := 25) rfl ?_); refine jr (some 5) rfl rfl Try.func25 kr_ rfl #[.slice Ao5 y431.length co5] rfl mt_ ?_; (with_reducible refine (jd.calls k _ _ y431 t434 _ ?side1 ?side2 A2.out).mono ?_); (case side1 => exact cc_ (Kd.jI HO433.out).2.2); (case side2 => exact (Kd.jI HO433.out).2.1); rintro e w6 ⟨v435, rfl, ho0, hb⟩; refine ⟨_, rfl, ?_⟩; have n0_ := jA.mk (Kd.jK (rR_ HO433) (Kd.jL ho0) hb); have n1_ := jA.mk (Kd.jS (Kd.jN ho0 (Kd.R_lt (rR_ HO433))) (jB (bb_ HB))); have n2_ := jA.mk (jC (bb_ HB) hb); clear HO433 HB; have HO433 := n0_; have HO436 := n1_; have HB := n2_; clear n0_ n1_ n2_))
 go_ret
 exact ⟨_, ew_, by refine pR_ ?_; exact Kd.jP HO436.out (fun _ hk => trivial), (bb_ HB)⟩

/-! ### jH: function 68 -/
def jH.l0 : Nat → List Int → List Int → Int → Option (List Int)
 | 0, _, _, _ => none
 | k + 1, x0, x3, x4 => if x4 < (x0.length : Int) then (if 0 ≤ x4 then ((some (([Int.tmod (rd x0 x4) 4294967296, IntKind.u64.wrap (Int.tdiv (rd x0 x4) 4294967296)] : List Int) : List Int)).bind fun y442 => (if x3.length + y442.length < 17592186044416 then (jH.l0 k x0 (x3 ++ y442) (wrap64 (x4 + 1))) else (none))) else (none)) else (some x3)
def jH.f (k : Nat) (l0 : List Int) : Option (List Int) := jH.l0 k l0 (([] : List Int)) 0
theorem jH.vk : ∀ k, (∀ y0 y1 y2, LeO (jH.l0 k y0 y1 y2) (jH.l0 (k + 1) y0 y1 y2))
 | 0 => fun _ _ _ r h => by simp [jH.l0] at h
 | k + 1 => by
  have ih0 := jH.vk k
  ·
   intro y0 y1 y2
   unfold jH.l0
   repeat' first
   | (with_reducible exact ih0 _ _ _)
   | (with_reducible exact LeO.refl _)
   | (with_reducible exact LeO.none _)
   | (with_reducible refine LeO.ite ?_ ?_)
   | (with_reducible refine LeO.bind ?_ (fun _ => ?_))
theorem jH.mono : ∀ a0 k, LeO (jH.f k a0) (jH.f (k + 1) a0) := by
 intro a0 k
 have ih0 := jH.vk k
 unfold jH.f
 repeat' first
   | (with_reducible exact ih0 _ _ _)
   | (with_reducible exact LeO.refl _)
   | (with_reducible exact LeO.none _)
   | (with_reducible refine LeO.ite ?_ ?_)
   | (with_reducible refine LeO.bind ?_ (fun _ => ?_))
def jH.T5 : Bool × List (List Nat × List Nat) := (true, [([], []), ([], []), ([], []), ([1, 2], [1, 2]), ([3], [3]), ([4], [4]), ([], []), ([], []), ([6, 7], [6, 7]), ([8], [8]), ([9], [9]), ([5, 10], [5, 10]), ([0, 11], [0, 11]), ([12, 12, 0, 1, 2, 3, 4, 5, 6, 7, 8, 9, 10, 11, 12], [0, 12])])
def jH.B5 : List Nat := [0, 0, 0, 6, 14, 30, 0, 0, 192, 448, 960, 2046, 4095, 8191]
theorem jH.tab5 : rtab .any (opsOf Try.f68 5) = jH.T5 := by kernel_rfl
theorem jH.jKR : jAk jH.T5.2 jH.B5 = true := by kernel_rfl
theorem jH.calls (k : Nat) (A0 : Option Addr) (c0 : Nat) (l0 : List Int) (r : List Int) (w : World) (hr0 : Kd.C (Kd.int .u64) w A0 l0.length l0) (hc0 : l0.length ≤ c0) (h : jH.f k l0 = some r) :
  Calls Try.prog 68 #[.slice A0 l0.length c0] w fun e w' => ∃ v0_ : Value, e = .returned (v0_) ∧ Kd.R (Kd.int .u64) 22 w' w.heap.size (fun _ => True) v0_ r ∧ Below w.heap.size w w' := by
 have HR0 := jA.mk hr0
 have HC0 := jA.mk hc0
 clear hr0 hc0
 have HB := jA.mk (Below.refl w.heap.size w)
 have H : (jH.l0 k l0 (([] : List Int)) 0) = some r := h
 clear h
 obtain ⟨y437, hy437⟩ : ∃ y_ : List Int, y_ = (([] : List Int)) := ⟨_, rfl⟩
 replace H : (jH.l0 k l0 y437 0) = some r := by first | (rw [hy437]; with_reducible exact H) | (have H2_ := (Option.bind_some _ _).symm.trans H; rw [hy437]; with_reducible exact H2_) | (with_reducible exact hs_ H) | with_reducible exact H | (rw [hy437]; exact H) | exact H
 have Ny437 := jA.mk hy437
 clear hy437
 have H' := jA.mk H
 clear H
 go_enter Try.func68, Try.ntmps68
 go_wp2_with (first | ((with_reducible refine jl (N := 5) rfl ?_); refine Kd.jAC (Kd.int .u64) _ 22 ?hg (N := 5) ?hd (xs := ([] : List Int)) (inner := []) (ok := fun _ => True) (okp := fun _ => True) ?hr ?hp (fun _ hk => hk) trivial (Below.refl _ _) (Nat.le_refl _) (by simp) ?_; (case hd => rfl); (case hg => rfl); (case hr => exact gs_); (case hp => exact (Reps.none _ _)); intro v438 w2 ho3 hb hg_ hnew_; clear hg_ hnew_; (first | rw [← Ny437.out] at ho3 | (simp only [Int.reduceToNat] at ho3; rw [← Ny437.out] at ho3)); have n0_ := jA.mk (Kd.jS ho3 (jB (bb_ HB))); have n1_ := jA.mk (jC (bb_ HB) hb); clear HB; have HO439 := n0_; have HB := n1_; clear n0_ n1_ hb ho3))
 go_loopg [3, 4] k (fun kq v3 v4 w' => ∃ (x3_1 : List Int) (x4_1 : Int), v4 = .int .i64 x4_1 ∧ jA (jH.l0 kq l0 x3_1 x4_1 = some r) ∧ jA (kq ≤ k) ∧ jA (Kd.R (Kd.int .u64) 22 w' w.heap.size (fun _ => True) v3 x3_1) ∧ jA (Below w.heap.size w w'))
 case atStart => exact ⟨(y437), (0), sd_, H', ⟨Nat.le_refl _⟩, ⟨(rR_ HO439)⟩, ⟨(bb_ HB)⟩⟩
 case round =>
  clear H'
  try clear p2
  obtain ⟨x3_1, x4_1, rfl, HA, HK1, HO_3, HB⟩ := hrel
  cases gk with
  | zero => exact absurd HA.out (by simp [jH.l0])
  | succ k1 =>
   have H := HA.out
   clear HA
   simp only [jH.l0] at H
   by_cases c4 : x4_1 < (l0.length : Int)
   ·
    rw [if_pos c4] at H
    have c4b0 := decide_eq_true c4
    clear c4
    by_cases c5 : 0 ≤ x4_1
    ·
     rw [if_pos c5] at H
     have c5b0 := decide_eq_true c5
     clear c5
     obtain ⟨ji6, hji6⟩ : ∃ j_ : Int, (Int.tmod (rd l0 x4_1) 4294967296) = j_ := ⟨_, rfl⟩
     replace H : ((some (([ji6, IntKind.u64.wrap (Int.tdiv (rd l0 x4_1) 4294967296)] : List Int) : List Int)).bind fun y442 => (if x3_1.length + y442.length < 17592186044416 then (jH.l0 k1 l0 (x3_1 ++ y442) (wrap64 (x4_1 + 1))) else (none))) = some r := by first | (rw [hji6] at H; exact H) | (simp only [hji6] at H ⊢; exact H)
     obtain ⟨y442, hy442⟩ : ∃ y_ : List Int, y_ = (([ji6, IntKind.u64.wrap (Int.tdiv (rd l0 x4_1) 4294967296)] : List Int)) := ⟨_, rfl⟩
     replace H : (if x3_1.length + y442.length < 17592186044416 then (jH.l0 k1 l0 (x3_1 ++ y442) (wrap64 (x4_1 + 1))) else (none)) = some r := by first | (rw [hy442]; with_reducible exact H) | (have H2_ := (Option.bind_some _ _).symm.trans H; rw [hy442]; with_reducible exact H2_) | (with_reducible exact hs_ H) | with_reducible exact H | (rw [hy442]; exact H) | exact H
     have Ny442 := jA.mk hy442
     clear hy442
     by_cases c7 : x3_1.length + y442.length < 17592186044416
     ·
      rw [if_pos c7] at H
      have LMc7 := jA.mk c7
      clear c7
      obtain ⟨y445, hy445⟩ : ∃ y_ : List Int, y_ = (x3_1 ++ y442) := ⟨_, rfl⟩
      replace H : (jH.l0 k1 l0 y445 (wrap64 (x4_1 + 1))) = some r := by first | (rw [hy445]; with_reducible exact H) | (have H2_ := (Option.bind_some _ _).symm.trans H; rw [hy445]; with_reducible exact H2_) | (with_reducible exact hs_ H) | with_reducible exact H | (rw [hy445]; exact H) | exact H
      have Ny445 := jA.mk hy445
      clear hy445
      have H' := jA.mk H
      clear H
      try go_wp2
      have n0_ := jA.mk (Kd.ze HO_3.out)
      have n1_ := jA.mk (qI HB.out)
      clear HO_3
      clear HB
      have HO_3 := n0_
      have HB := n1_
      clear n0_ n1_
      have p440 : 0 ≤ (x4_1 : Int) := of_decide_eq_true am_
      have q440 : x4_1 < (l0.length : Int) := of_decide_eq_true am_
      obtain ⟨ad440, e440, hx440_0⟩ := Kd.zF HR0.out x4_1 p440 q440
      have hw440_0 := hx440_0
      cases e440
      replace hx440_0 := (HB.out.cell (World.block_lt_of_cell? w _ hx440_0)).trans hx440_0
      replace p440 := eq_true p440
      replace q440 := eq_true q440
      have p441 : 0 ≤ (x4_1 : Int) := of_decide_eq_true am_
      have q441 : x4_1 < (l0.length : Int) := of_decide_eq_true am_
      obtain ⟨ad441, e441, hx441_0⟩ := Kd.zF HR0.out x4_1 p441 q441
      have hw441_0 := hx441_0
      obtain rfl : ad440 = ad441 := (by injection e441)
      replace hx441_0 := (HB.out.cell (World.block_lt_of_cell? w _ hx441_0)).trans hx441_0
      replace p441 := eq_true p441
      replace q441 := eq_true q441
      refine jAs (n := 14) (S := fun w' => w'.cell? (ad440.add (x4_1).toNat) = some (.int .u64 (rd l0 x4_1)) ∧ w'.cell? (ad440.add (x4_1).toNat) = some (.int .u64 (rd l0 x4_1))) (ds := []) #[false, false, false, false, false, false, false, false, false, false, false, false, false, false] kr_ rfl rfl ⟨((HB.out.cell (World.block_lt_of_cell? w _ hw440_0)).trans hw440_0), ((HB.out.cell (World.block_lt_of_cell? w _ hw441_0)).trans hw441_0)⟩ (fun hHeld => ?_); refine jAa jH.tab5 jH.jKR (fun HT_ HW_ => ?_)
      generalize wr.drew = w8 at HO_3 HB hx440_0 hx441_0 hHeld ⊢
      refine vU (i := 0) (N := some 12) (v := ?_) (a' := ?_) #[true, false, false, false, false, false, false, false, false, false, false, false, false, false] rfl rfl (vQ HT_.out kr_) (fun _ _ _ h => h) (Or.inl ⟨by rfl, ?_⟩) ?_ ?_
      rotate_left
      ·
       intro w'
       go_simp
       with_reducible rfl
      rotate_left
      ·
       simp only [Act.put, ss_, jk, jo]
       rfl
      refine vU (i := 1) (N := some 13) (v := ?_) (a' := ?_) #[true, true, false, false, false, false, false, false, false, false, false, false, false, false] rfl rfl (vQ HT_.out kr_) (fun _ _ _ h => h) (Or.inl ⟨by rfl, ?_⟩) ?_ ?_
      rotate_left
      ·
       intro w'
       go_simp
       with_reducible rfl
      rotate_left
      ·
       simp only [Act.put, ss_, jk, jo]
       rfl
      refine vU (i := 2) (N := some 14) (v := ?_) (a' := ?_) #[true, true, true, false, false, false, false, false, false, false, false, false, false, false] rfl rfl (vQ HT_.out kr_) (fun _ _ _ h => h) (Or.inl ⟨by rfl, ?_⟩) ?_ ?_
      rotate_left
      ·
       intro w'
       go_simp
       with_reducible rfl
      rotate_left
      ·
       simp only [Act.put, ss_, jk, jo]
       rfl
      refine vU (i := 3) (N := some 15) (v := ?_) (a' := ?_) #[true, true, true, true, false, false, false, false, false, false, false, false, false, false] rfl rfl (vQ HT_.out kr_) (fun _ _ _ h => h) (Or.inl ⟨by rfl, ?_⟩) ?_ ?_
      rotate_left
      ·
       intro w'
       go_simp
       with_reducible rfl
      rotate_left
      ·
       simp only [Act.put, ss_, jk, jo]
       rfl
      refine vU (i := 6) (N := some 18) (v := ?_) (a' := ?_) #[true, true, true, true, false, false, true, false, false, false, false, false, false, false] rfl rfl (vQ HT_.out kr_) (fun _ _ _ h => h) (Or.inl ⟨by rfl, ?_⟩) ?_ ?_
      rotate_left
      ·
       intro w'
       go_simp
       with_reducible rfl
      rotate_left
      ·
       simp only [Act.put, ss_, jk, jo]
       rfl
      refine vU (i := 7) (N := some 19) (v := ?_) (a' := ?_) #[true, true, true, true, false, false, true, true, false, false, false, false, false, false] rfl rfl (vQ HT_.out kr_) (fun _ _ _ h => h) (Or.inl ⟨by rfl, ?_⟩) ?_ ?_
      rotate_left
      ·
       intro w'
       go_simp
       with_reducible rfl
      rotate_left
      ·
       simp only [Act.put, ss_, jk, jo]
       rfl
      refine vU (i := 8) (N := some 20) (v := ?_) (a' := ?_) #[true, true, true, true, false, false, true, true, true, false, false, false, false, false] rfl rfl (vQ HT_.out kr_) (fun _ _ _ h => h) (Or.inl ⟨by rfl, ?_⟩) ?_ ?_
      rotate_left
      ·
       intro w'
       go_simp
       with_reducible rfl
      rotate_left
      ·
       simp only [Act.put, ss_, jk, jo]
       rfl
      refine qw (i := 4) (N := some 16) (v := ?_) (a' := ?_) #[true, true, true, true, true, false, true, true, true, false, false, false, false, false] rfl rfl (qZ HT_.out HW_.out kr_) (fun _ _ _ h => h) (Or.inl ⟨by rfl, ?_⟩) hHeld ?_ ?_
      rotate_left
      ·
       rintro w' ⟨s0, s1⟩
       go_simp
       with_reducible rfl
      rotate_left
      ·
       simp only [Act.put, ss_, jk, jo]
       rfl
      refine vU (i := 5) (N := some 17) (v := ?_) (a' := ?_) #[true, true, true, true, true, true, true, true, true, false, false, false, false, false] rfl rfl (vQ HT_.out kr_) (fun _ _ _ h => h) (Or.inl ⟨by rfl, ?_⟩) ?_ ?_
      rotate_left
      ·
       intro w'
       go_simp
       with_reducible rfl
      rotate_left
      ·
       simp only [Act.put, ss_, jk, jo]
       rfl
      refine qw (i := 9) (N := some 21) (v := ?_) (a' := ?_) #[true, true, true, true, true, true, true, true, true, true, false, false, false, false] rfl rfl (qZ HT_.out HW_.out kr_) (fun _ _ _ h => h) (Or.inl ⟨by rfl, ?_⟩) hHeld ?_ ?_
      rotate_left
      ·
       rintro w' ⟨s0, s1⟩
       go_simp
       with_reducible rfl
      rotate_left
      ·
       simp only [Act.put, ss_, jk, jo]
       rfl
      refine vU (i := 10) (N := some 22) (v := ?_) (a' := ?_) #[true, true, true, true, true, true, true, true, true, true, true, false, false, false] rfl rfl (vQ HT_.out kr_) (fun _ _ _ h => h) (Or.inl ⟨by rfl, ?_⟩) ?_ ?_
      rotate_left
      ·
       intro w'
       go_simp
       with_reducible rfl
      rotate_left
      ·
       simp only [Act.put, ss_, jk, jo]
       rfl
      refine one_ (i := 11) (N := some 23) #[true, true, true, true, true, true, true, true, true, true, true, true, false, false] rfl rfl (jAK HT_.out kr_) (by decide) (fun K hK => ?_)
      refine Kd.qd (Kd.int .u64) _ 22 ?hg (N := 23) ?hd (xs := ([ji6, IntKind.u64.wrap (Int.tdiv (rd l0 x4_1) 4294967296)] : List Int)) (inner := [.int .u64 ji6, .int .u64 (IntKind.u64.wrap (Int.tdiv (rd l0 x4_1) 4294967296))]) (ok := fun _ => True) (okp := fun _ => True) ?hr ?hp (fun _ hk => hk) trivial (Below.refl _ _) (Nat.le_refl _) (by simp) ?_; (case hd => rfl); (case hg => rfl); (case hr => exact gs_); (case hp => exact (Reps.one (show Kd.M (Kd.int .u64) _ _ _ ji6 [.int .u64 ji6] from rfl) (Reps.one (show Kd.M (Kd.int .u64) _ _ _ (IntKind.u64.wrap (Int.tdiv (rd l0 x4_1) 4294967296)) [.int .u64 (IntKind.u64.wrap (Int.tdiv (rd l0 x4_1) 4294967296))] from rfl) (Reps.none _ _))))
      intro v443 w9 ho10 hb hg_ hnew_
      clear hg_ hnew_
      (first | rw [← Ny442.out] at ho10 | (simp only [Int.reduceToNat] at ho10; rw [← Ny442.out] at ho10))
      have n0_ := jA.mk (Kd.jK (rR_ HO_3) (Kd.jL ho10) hb)
      have n1_ := jA.mk (Kd.jS (Kd.jN ho10 (Kd.R_lt (rR_ HO_3))) (jB (bb_ HB)))
      have n2_ := jA.mk (jC (bb_ HB) hb)
      clear HO_3
      clear HB
      have HO_3 := n0_
      have HO444 := n1_
      have HB := n2_
      clear n0_ n1_ n2_
      clear hb ho10
      obtain ⟨Ao12, co12, eo12⟩ := Kd.jc HO444.out
      (first | subst eo12 | (injection eo12 with f1_ f2_ f3_; have f4_ := f1_.symm; have f5_ := f3_.symm; clear f1_ f2_ f3_; subst f4_; subst f5_))
      refine hK.out _ _ ⟨((HB.out.cell (World.block_lt_of_cell? w _ hw440_0)).trans hw440_0), ((HB.out.cell (World.block_lt_of_cell? w _ hw441_0)).trans hw441_0)⟩ (fun hHeld => ?_)
      clear hK K
      refine qO (a' := ?_) ?_ ?_
      rotate_left
      ·
       show Act.put _ (some 23) _ = _
       simp only [Act.put, ss_, jk, jo]
       rfl
      refine one_ (i := 12) (N := some 24) #[true, true, true, true, true, true, true, true, true, true, true, true, true, false] rfl rfl (jAK HT_.out kr_) (by decide) (fun K hK => ?_)
      refine Kd.jBl (Kd.int .u64) (w0 := w) w.heap.size (by rfl) (.tmp 12) (.tmp 23) 35 22 (.int .u64 0) 8 rfl Try.underlying35 qJ rfl (by decide) (by omega) u3 x3_1 y442 _ _ _ (fun k_ => some k_ ≠ (.slice Ao12 y442.length co12 : Value).ownBlock) (fun _ => False) rfl rfl ?aO ?aR (fun _ _ h => h) (fun _ h => h.elim) ?aF ?aB ?aS ?aL ?_
      (case aR => exact cc_ (Kd.jI HO444.out).2.2)
      (case aB => exact (bb_ HB))
      (case aF => exact (fun k_ hk => Kd.fresh' (Kd.R_lt (rR_ HO444)) k_ hk))
      (case aO => exact (by refine pR_ ?_; exact Kd.jP HO_3.out (fun _ hk => hk.2)))
      (case aS => exact (jB (bb_ HB)))
      (case aL => have := LMc7.out; omega)
      intro v446 w11 ho hb hg hat
      rw [← Ny445.out] at ho
      have n0_ := jA.mk (Kd.zX (ok := (fun _ => True)) (rR_ HO444) hg hat)
      have n1_ := jA.mk (hb)
      have n2_ := jA.mk (ho)
      clear HO444
      clear HB
      clear HO_3
      have HO444 := n0_
      have HB := n1_
      have HO447 := n2_
      clear n0_ n1_ n2_
      clear ho hb hg hat
      refine hK.out _ _ ⟨((HB.out.cell (World.block_lt_of_cell? w _ hw440_0)).trans hw440_0), ((HB.out.cell (World.block_lt_of_cell? w _ hw441_0)).trans hw441_0)⟩ (fun hHeld => ?_)
      clear hK K
      refine qO (a' := ?_) ?_ ?_
      rotate_left
      ·
       show Act.put _ (some 24) _ = _
       simp only [Act.put, ss_, jk, jo]
       rfl
      refine vU (i := 13) (N := some 3) (v := ?_) (a' := ?_) #[true, true, true, true, true, true, true, true, true, true, true, true, true, true] rfl rfl (vQ HT_.out kr_) (fun _ _ _ h => h) (Or.inl ⟨by rfl, ?_⟩) ?_ ?_
      rotate_left
      ·
       intro w'
       go_simp
       with_reducible rfl
      rotate_left
      ·
       simp only [Act.put, ss_, jk, jo]
       rfl
      refine jBW (jBK HT_.out kr_) ?_
      try go_wp2
      go_roundg k1
      case measure => have := HK1.out; omega
      case rel => exact ⟨(y445), (wrap64 (x4_1 + 1)), sd_, H', ⟨by have := HK1.out; omega⟩, ⟨by (with_reducible repeat (first | apply Kd.zQ | apply Kd.zU | apply Kd.ze)); exact Kd.jP HO447.out (fun _ hk => trivial)⟩, ⟨(bb_ HB)⟩⟩
     ·
      rw [if_neg c7] at H
      exact absurd H (by simp)
    ·
     rw [if_neg c5] at H
     exact absurd H (by simp)
   ·
    rw [if_neg c4] at H
    have c4b0 := decide_eq_false c4
    clear c4
    obtain rfl := Option.some.inj H
    go_wp2
    go_ret
    exact ⟨_, ew_, (rR_ HO_3), (bb_ HB)⟩

/-! ### jf: function 69 -/
def jf.f (l0 : List Int) (a1 : Int) : Option (Int) := if a1 < (l0.length : Int) then (if 0 ≤ a1 then (some (rd l0 a1)) else (none)) else (some 0)
theorem jf.calls (A0 : Option Addr) (c0 : Nat) (l0 : List Int) (a1 : Int) (r : Int) (w : World) (hr0 : Kd.C (Kd.int .u64) w A0 l0.length l0) (hc0 : l0.length ≤ c0) (h : jf.f l0 a1 = some r) :
  Calls Try.prog 69 #[.slice A0 l0.length c0, .int .i64 a1] w fun e w' => e = .returned (.int .u64 r) ∧ zf w w' := by
 have HR0 := jA.mk hr0
 have HC0 := jA.mk hc0
 clear hr0 hc0
 have H : (if a1 < (l0.length : Int) then (if 0 ≤ a1 then (some (rd l0 a1)) else (none)) else (some 0)) = some r := h
 clear h
 by_cases c3 : a1 < (l0.length : Int)
 ·
  rw [if_pos c3] at H
  have c3b0 := decide_eq_true c3
  clear c3
  by_cases c4 : 0 ≤ a1
  ·
   rw [if_pos c4] at H
   have c4b0 := decide_eq_true c4
   clear c4
   obtain rfl := Option.some.inj H
   have p448 : 0 ≤ (a1 : Int) := of_decide_eq_true am_
   have q448 : a1 < (l0.length : Int) := of_decide_eq_true am_
   obtain ⟨ad448, e448, hx448_0⟩ := Kd.zF HR0.out a1 p448 q448
   cases e448
   replace p448 := eq_true p448
   replace q448 := eq_true q448
   go_enter Try.func69, Try.ntmps69
   go_wp2
   go_ret
   exact ⟨by first | rfl | (simp; done) | (simp [*]; done), by repeat (first | exact zf.refl _ | apply zf.step)⟩
  ·
   rw [if_neg c4] at H
   exact absurd H (by simp)
 ·
  rw [if_neg c3] at H
  have c3b0 := decide_eq_false c3
  clear c3
  obtain rfl := Option.some.inj H
  go_enter Try.func69, Try.ntmps69
  go_wp2
  go_ret
  exact ⟨by first | rfl | (simp; done) | (simp [*]; done), by repeat (first | exact zf.refl _ | apply zf.step)⟩

end Go.Proofs.Ytijgeonhbmgikaa.PORatioSums
